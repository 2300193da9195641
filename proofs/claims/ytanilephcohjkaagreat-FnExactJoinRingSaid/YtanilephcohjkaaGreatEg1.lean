/- The engine, part 1: a layer of plain values over the model. No condition. -/
import Derived.Still
import Derived.Below
import Derived.KernelRfl
import Derived.Laws.AppendOwn
import Derived.Laws.OwnMore
import Derived.Tactics
import Derived.WalkKit
import Derived.Laws.Strings
import Derived.Laws.Concat
import Derived.Laws.Small
import Derived.Laws.MakeOwn
import Derived.Laws.CopyRow
import Derived.Laws.Append
import Derived.Deep.LoopGhost
import Derived.IntWalk
import Derived.Deep.Slices
import Derived.ChangeArms
import Derived.ChangeShapes
import Derived.WideShapes
import Derived.DataReads
/- A region that draws its order, walked in one order of ours: what may stand in any order is taken as early as it may be. No condition. -/
namespace Go.Eager
open Go Go.RowKit

def Ext (w w' : World) : Prop := Below w.heap.size w w'
theorem Ext.refl (w : World) : Ext w w := Below.refl _ w
theorem Ext.trans {a b c : World} (h : Ext a b) (k : Ext b c) : Ext a c := Below.trans h (Below.mono k h.size)

section
variable (P : Program) (ops : Array Oper) (cls : Nat → Nat) (Q : Act → World → Prop)

def oN (o : Oper) (a : Act) (w : World) (next : Value → World → Prop) : Prop :=
  match (execOp a.eval o).run P w with
  | .ok (.value v) w' => next v w'
  | .ok .skip w' => next undef w'
  | .ok (.enter f args) w' => Calls P f args w' fun e w'' => ∃ v, e = .returned v ∧ next v w''
  | _ => False

theorem oN_mono {P : Program} {o : Oper} {a : Act} {w : World} {K K' : Value → World → Prop} (h : ∀ v w, K v w → K' v w) (hh : oN P o a w K) : oN P o a w K' := by
  unfold oN at *
  generalize (execOp a.eval o).run P w = r at *
  cases r with
  | ok n w' =>
    cases n <;> simp only at hh ⊢
    case value => exact h _ _ hh
    case skip => exact h _ _ hh
    case enter f args => exact hh.mono fun e w'' ⟨v, he, hk⟩ => ⟨v, he, h _ _ hk⟩
  | halt x w' => simp at hh

theorem oN_wp {P : Program} {o : Oper} {a : Act} {w : World} {K : Act → World → Prop} {Q' : Exit → Act → World → Prop} (hh : oN P o a w fun v w' => K (a.put o.dst v) w') : o.wp P a w K Q' := by
  unfold oN at hh
  unfold Oper.wp
  generalize (execOp a.eval o).run P w = r at *
  cases r with
  | ok n w' =>
    cases n <;> simp only [Oper.upon] at hh ⊢
    case value => exact hh
    case skip => exact hh
    case enter f args => exact hh.mono fun e w'' ⟨v, he, hk⟩ => by subst he; exact hk
  | halt x w' => simp at hh

def opN (i : Nat) (K : Act → World → Prop) (a : Act) (w : World) : Prop :=
  match ops[i]? with
  | none => K a w
  | some o => if Region.wanted o (yielded ops a.tmps) then oN P o a w (fun v w' => (cls i ≠ 2 → Ext w w') ∧ K (a.put o.dst v) w') else K (a.put o.dst undef) w

def anyN : Nat → Array Bool → Act → World → Prop
  | 0, listed, a, w => Region.ready .any ops listed = [] ∧ Q a w
  | n + 1, listed, a, w => (Region.ready .any ops listed = [] → Q a w) ∧ ∀ i ∈ Region.ready .any ops listed, opN P ops cls i (anyN n (listed.setIfInBounds i true)) a w

theorem opN_mono {P : Program} {ops : Array Oper} {cls : Nat → Nat} {i : Nat} {a : Act} {w : World} {K K' : Act → World → Prop} (h : ∀ a w, K a w → K' a w) (hh : opN P ops cls i K a w) : opN P ops cls i K' a w := by
  unfold opN at *
  split
  · exact h _ _ (by simpa [*] using hh)
  · rename_i o ho
    simp only [ho] at hh
    split
    · rename_i hw; simp only [hw, if_true] at hh; exact oN_mono (fun v w' hk => ⟨hk.1, h _ _ hk.2⟩) hh
    · rename_i hw; simp only [hw] at hh; exact h _ _ hh

theorem wpAny_of_anyN {P : Program} {ops : Array Oper} {cls : Nat → Nat} {Q : Act → World → Prop} {Q' : Exit → Act → World → Prop} (hQ : ∀ a w, Q a w → Q' .normal a w) :
    ∀ (n : Nat) (listed : Array Bool) (a : Act) (w : World), anyN P ops cls Q n listed a w → wpAny P .any ops Q' n listed a w
  | 0, _, _, _, h => ⟨h.1, hQ _ _ h.2⟩
  | n + 1, listed, a, w, h => ⟨fun h0 => hQ _ _ (h.1 h0), fun i hi => by
      have h2 := h.2 i hi
      unfold opN at h2
      unfold wpOp
      cases ho : ops[i]? with
      | none => simp only [ho] at h2 ⊢; exact wpAny_of_anyN hQ n _ _ _ h2
      | some o =>
        simp only [ho] at h2 ⊢
        split
        · rename_i hw; simp only [hw, if_true] at h2
          exact .inl (oN_wp (oN_mono (fun v w' hk => wpAny_of_anyN hQ n _ _ _ hk.2) h2))
        · rename_i hw; simp only [hw] at h2; exact wpAny_of_anyN hQ n _ _ _ h2⟩

def Stands (c : Nat) (o : Oper) (a : Act) (w : World) (v : Value) : Prop :=
  (Region.wanted o (yielded ops a.tmps) = true ∧ ∀ w', (c = 0 ∨ Ext w w') → (execOp a.eval o).run P w' = .ok (.value v) w') ∨
  (Region.wanted o (yielded ops a.tmps) = false ∧ v = undef)

theorem Stands.later {P : Program} {ops : Array Oper} {c : Nat} {o : Oper} {a : Act} {w w' : World} {v : Value} (h : Stands P ops c o a w v) (hw : c = 0 ∨ Ext w w') : Stands P ops c o a w' v := by
  rcases h with ⟨h1, h2⟩ | h
  · refine .inl ⟨h1, fun w'' h'' => h2 w'' ?_⟩
    rcases hw with hw | hw
    · exact .inl hw
    · rcases h'' with h'' | h''
      · exact .inl h''
      · exact .inr (hw.trans h'')
  · exact .inr h

theorem Stands.of_same {P : Program} {ops : Array Oper} {c : Nat} {o : Oper} {a a' : Act} {w : World} {v : Value} (h : Stands P ops c o a w v) (he : execOp a'.eval o = execOp a.eval o)
    (hw : Region.wanted o (yielded ops a'.tmps) = Region.wanted o (yielded ops a.tmps)) : Stands P ops c o a' w v := by
  unfold Stands at *; rw [he, hw]; exact h

def closedB (B : Array (List Nat)) : Bool :=
  (List.range ops.size).all fun j => (B.getD j []).all fun m => ((ops[j]?).map fun o => o.after.any fun e => Region.binds .any e && (e.on == m || (B.getD e.on []).contains m)).getD false

theorem closedB_spec {ops : Array Oper} {B : Array (List Nat)} (h : closedB ops B = true) {j m : Nat} {o : Oper} (ho : ops[j]? = some o) (hm : m ∈ B.getD j []) :
    ∃ e ∈ o.after, Region.binds .any e = true ∧ (e.on = m ∨ m ∈ B.getD e.on []) := by
  simp only [closedB, List.all_eq_true, List.mem_range] at h
  have h1 := h j (Array.getElem?_eq_some_iff.1 ho).1 m hm
  simp only [ho, Option.map_some, Option.getD_some, Array.any_eq_true', Bool.and_eq_true, Bool.or_eq_true, beq_iff_eq, List.contains_iff_mem] at h1
  obtain ⟨e, he, hb, h2⟩ := h1
  exact ⟨e, he, hb, h2⟩

def Shut (B : Array (List Nat)) (listed : Array Bool) : Prop := ∀ k m, listed.getD k false = true → m ∈ B.getD k [] → listed.getD m false = true

theorem Shut.add {ops : Array Oper} {B : Array (List Nat)} (hB : closedB ops B = true) {listed : Array Bool} (h : Shut B listed) {i : Nat} (hi : i ∈ Region.ready .any ops listed) : Shut B (listed.setIfInBounds i true) := by
  intro k m hk hm
  by_cases hki : i = k
  · subst hki
    obtain ⟨_, o, ho, hall⟩ := mem_ready.1 hi
    obtain ⟨e, he, hb, h2⟩ := closedB_spec hB ho hm
    have h3 := hall e he hb
    rcases h2 with h2 | h2
    · subst h2; exact getD_set_true h3
    · exact getD_set_true (h _ _ h3 h2)
  · rw [getD_set_ne false hki] at hk
    exact getD_set_true (h _ _ hk hm)

theorem ready_not_waits {ops : Array Oper} {B : Array (List Nat)} (hB : closedB ops B = true) {listed : Array Bool} (h : Shut B listed) {i j : Nat} (hj : j ∈ Region.ready .any ops listed) (hi : listed.getD i false = false) : i ∉ B.getD j [] := by
  intro hm
  obtain ⟨_, o, ho, hall⟩ := mem_ready.1 hj
  obtain ⟨e, he, hb, h2⟩ := closedB_spec hB ho hm
  have h3 := hall e he hb
  rcases h2 with h2 | h2
  · subst h2; rw [h3] at hi; cases hi
  · rw [h _ _ h3 h2] at hi; cases hi

theorem unlisted_of_ready {ops : Array Oper} {listed : Array Bool} {i : Nat} (hi : i ∈ Region.ready .any ops listed) : listed.getD i false = false := by
  have h0 := (mem_ready.1 hi).1
  rcases Nat.lt_or_ge i listed.size with h' | h'
  · simp [h'] at h0 ⊢; exact h0
  · simp [Array.getElem?_eq_none h'] at h0

theorem opN_put {P : Program} {ops : Array Oper} {cls : Nat → Nat} {j c : Nat} {oi oj : Oper} {v : Value} {w : World} (hj : ops[j]? = some oj) (hap : oi.apart ops oj = true) (hc : c = 0 ∨ cls j ≠ 2)
    (hsi : ∀ cs b, oi.op ≠ .select cs b) (hsj : ∀ cs b, oj.op ≠ .select cs b) {K : Act → World → Prop} {a : Act}
    (hy : Stands P ops c oi a w v) (h : opN P ops cls j K (a.put oi.dst v) w) :
    opN P ops cls j (fun a' w' => Stands P ops c oi a' w' v ∧ K (a'.put oi.dst v) w') a w := by
  obtain ⟨h1, h2, h3⟩ := Oper.apart_spec hap
  have keep : ∀ (a : Act) (w : World), Stands P ops c oi a w v → ∀ u, Stands P ops c oi (a.put oj.dst u) w v := fun a w hy u =>
    hy.of_same (execOp_put oi hsi a oj.dst u h3) (wanted_put oi a oj.dst u h3)
  unfold opN at *
  simp only [hj] at *
  rw [wanted_put oj a oi.dst v h1] at h
  split
  · rename_i hw
    simp only [hw, if_true] at h
    unfold oN at h
    rw [execOp_put oj hsj a oi.dst v h1] at h
    refine oN_mono (K := fun u w' => (cls j ≠ 2 → Ext w w') ∧ K ((a.put oi.dst v).put oj.dst u) w') ?_ h
    rintro u w' ⟨he, hk⟩
    refine ⟨he, keep a w' (hy.later (hc.imp id he)) u, ?_⟩
    rw [← Act.put_comm a v u h2]; exact hk
  · rename_i hw
    simp only [hw] at h
    exact ⟨keep a w hy _, by rw [← Act.put_comm a v undef h2]; exact h⟩

theorem anyN_first {P : Program} {ops : Array Oper} {cls : Nat → Nat} {Q : Act → World → Prop} {B : Array (List Nat)} (hB : closedB ops B = true) {i c : Nat} {oi : Oper} {v : Value} (hi : ops[i]? = some oi) (hci : cls i ≠ 2)
    (hsel : ∀ (j : Nat) (o : Oper) cs b, ops[j]? = some o → o.op ≠ .select cs b) :
    ∀ (fuel : Nat) (listed : Array Bool) (a : Act) (w : World), Shut B listed →
      (∀ j oj, ops[j]? = some oj → j ≠ i → listed.getD j true = false → i ∉ B.getD j [] → oi.apart ops oj = true ∧ (c = 0 ∨ cls j ≠ 2)) →
      i ∈ Region.ready .any ops listed → Stands P ops c oi a w v →
      anyN P ops cls Q fuel (listed.setIfInBounds i true) (a.put oi.dst v) w → anyN P ops cls Q (fuel + 1) listed a w := by
  have own : ∀ {K : Act → World → Prop} {a : Act} {w : World}, Stands P ops c oi a w v → K (a.put oi.dst v) w → opN P ops cls i K a w := by
    intro K a w hy hk
    unfold opN
    simp only [hi]
    rcases hy with ⟨hw, hv⟩ | ⟨hw, rfl⟩
    · simp only [hw, if_true]; unfold oN; rw [hv w (.inr (Ext.refl w))]; exact ⟨fun _ => Ext.refl w, hk⟩
    · simp only [hw]; exact hk
  intro fuel
  induction fuel with
  | zero =>
    intro listed a w _ _ hr hy H
    refine ⟨fun h => (by rw [h] at hr; cases hr), fun j hj => ?_⟩
    by_cases hji : j = i
    · subst hji; exact own hy H
    · have := ready_mono hj hji
      rw [H.1] at this
      cases this
  | succ fuel ih =>
    intro listed a w hS hfree hr hy H
    refine ⟨fun h => (by rw [h] at hr; cases hr), fun j hj => ?_⟩
    by_cases hji : j = i
    · subst hji; exact own hy H
    · have h1 := H.2 j (ready_mono hj hji)
      obtain ⟨hjun, oj, hoj, _⟩ := mem_ready.1 hj
      have hnot : i ∉ B.getD j [] := ready_not_waits hB hS hj (unlisted_of_ready hr)
      have hf := hfree j oj hoj hji hjun hnot
      have h2 := opN_put hoj hf.1 hf.2 (fun cs b => hsel i oi cs b hi) (fun cs b => hsel j oj cs b hoj) hy h1
      have hfree' : ∀ k ok, ops[k]? = some ok → k ≠ i → (listed.setIfInBounds j true).getD k true = false → i ∉ B.getD k [] → oi.apart ops ok = true ∧ (c = 0 ∨ cls k ≠ 2) := fun k ok hk hki hun hno => by
        refine hfree k ok hk hki ?_ hno
        by_cases hjk : j = k
        · subst hjk; exact hjun
        · rw [getD_set_ne true hjk] at hun; exact hun
      refine opN_mono (fun a' w' h3 => ih (listed.setIfInBounds j true) a' w' (hS.add hB hj) hfree' (ready_mono hr (Ne.symm hji)) h3.1 ?_) h2
      rw [Array.setIfInBounds_comm _ _ hji]
      exact h3.2

def wpE : List Nat → Act → World → Prop
  | [], a, w => Q a w
  | i :: s, a, w =>
    match ops[i]? with
    | none => False
    | some o =>
      if cls i ≤ 1 then ∃ v, Stands P ops (cls i) o a w v ∧ wpE s (a.put o.dst v) w
      else opN P ops cls i (wpE s) a w

def chk (B : Array (List Nat)) : List Nat → Array Bool → Bool
  | [], listed => (Region.ready .any ops listed).isEmpty
  | i :: s, listed =>
    (Region.ready .any ops listed).contains i &&
    (if cls i ≤ 1 then
      ((ops[i]?).map fun oi => (List.range ops.size).all fun j => j == i || listed.getD j true || (B.getD j []).contains i || (((ops[j]?).map fun oj => oi.apart ops oj).getD true && (cls i == 0 || cls j != 2))).getD false
     else (Region.ready .any ops listed) == [i]) &&
    chk B s (listed.setIfInBounds i true)

theorem anyN_of_wpE {P : Program} {ops : Array Oper} {cls : Nat → Nat} {Q : Act → World → Prop} {B : Array (List Nat)} (hB : closedB ops B = true) (hs : Region.noSelect ops = true) :
    ∀ (s : List Nat) (listed : Array Bool) (a : Act) (w : World), Shut B listed → chk ops cls B s listed = true → wpE P ops cls Q s a w → anyN P ops cls Q s.length listed a w
  | [], listed, a, w, _, hc, h => ⟨by simpa [chk] using hc, h⟩
  | i :: s, listed, a, w, hS, hc, h => by
    simp only [chk, Bool.and_eq_true] at hc
    obtain ⟨⟨hr, hf⟩, hc'⟩ := hc
    have hr' : i ∈ Region.ready .any ops listed := by simpa using hr
    unfold wpE at h
    cases hi : ops[i]? with
    | none => simp only [hi] at h
    | some oi =>
      simp only [hi] at h
      by_cases hl : cls i ≤ 1
      · simp only [hl, if_true] at h hf
        obtain ⟨v, hy, hk⟩ := h
        have ih := anyN_of_wpE hB hs s (listed.setIfInBounds i true) (a.put oi.dst v) w (hS.add hB hr') hc' hk
        simp only [hi, Option.map_some, Option.getD_some, List.all_eq_true, List.mem_range] at hf
        refine anyN_first hB (c := cls i) hi (by omega) (Region.noSelect_spec hs) s.length listed a w hS ?_ hr' hy ih
        intro j oj hoj hji hun hno
        have h1 := hf j (Array.getElem?_eq_some_iff.1 hoj).1
        simp only [hoj, Option.map_some, Option.getD_some, Bool.or_eq_true, Bool.and_eq_true, beq_iff_eq, bne_iff_ne, ne_eq, List.contains_iff_mem] at h1
        rcases h1 with ((h1 | h1) | h1) | h1
        · exact absurd h1 hji
        · rw [h1] at hun; cases hun
        · exact absurd h1 hno
        · exact ⟨h1.1, h1.2⟩
      · simp only [hl, if_false] at h hf
        have hre : Region.ready .any ops listed = [i] := by simpa using hf
        refine ⟨fun h0 => (by rw [h0] at hr'; cases hr'), fun j hj => ?_⟩
        rw [hre] at hj
        obtain rfl : j = i := by simpa using hj
        exact opN_mono (fun a' w' h3 => anyN_of_wpE hB hs s _ a' w' (hS.add hB hr') hc' h3) h

theorem wp_region_eager {P : Program} {ops : Array Oper} {id : Nat} {Q : Exit → Act → World → Prop} {a : Act} {w : World} (cls : Nat → Nat) (B : Array (List Nat)) (s : List Nat)
    (hm : P.follows .mixedOrders = true) (hc : (closedB ops B && Region.noSelect ops && (s.length == ops.size) && chk ops cls B s (Array.replicate ops.size false)) = true)
    (h : wpE P ops cls (Q .normal) s a { w with drawn := w.drawn + 1 }) : (Code.region id ops true).wp P Q a w := by
  simp only [Bool.and_eq_true, beq_iff_eq] at hc
  obtain ⟨⟨⟨hB, hs⟩, hl⟩, hk⟩ := hc
  refine wp_region_any hm (wpAny_of_anyN (cls := cls) (fun _ _ h => h) _ _ _ _ ?_)
  have := anyN_of_wpE hB hs s (Array.replicate ops.size false) a { w with drawn := w.drawn + 1 } (fun k m hk _ => by
    by_cases hlt : k < ops.size <;> simp [hlt] at hk) hk h
  rwa [hl] at this
end
end Go.Eager

/- What memory says, as plain values: a value read to the bottom, a frame as a list of slots, and what each operation does to them. No condition. -/
namespace Go.Abs
open Go Go.RowKit Go.Eager

inductive SV where
  | raw (v : Value)
  | sl (sz : Nat) (l : List SV)
  | agg (l : List SV)
  | tup (l : List SV)
  | ptr (p : SV)
  | tr (Z : Nat → Prop) (s : SV) (v : Value)
  | clo (f : Nat) (l : List SV)
  deriving Inhabited

inductive Tree (w : World) : (Nat → Prop) → SV → Value → Prop
  | raw (Z : Nat → Prop) (v : Value) : Tree w Z (.raw v) v
  | nil (Z : Nat → Prop) (sz : Nat) (a : Option Addr) (c : Nat) : Tree w Z (.sl sz []) (.slice a 0 c)
  | sl (Z : Nat → Prop) (sz T : Nat) (l : List SV) (b c : Nat) (cur : Array Value) (vals : Nat → Value) (z : Nat → Nat → Prop) (hb : Z b) (hl : 0 < l.length) (hc : l.length ≤ c) (hz : 0 < sz) (hcm : c ≤ maxLen) (hcs : cur.size = c * sz)
      (hg : w.heap[b]? = some (.cells cur T (0, 0))) (hel : ∀ (i : Nat) (s : SV), l[i]? = some s → Tree w (z i) s (vals i)) (hsz : ∀ i : Nat, i < l.length → (vals i).cells.size = sz)
      (hcl : ∀ i : Nat, i < l.length → ∀ (j : Nat) (u : Value), (vals i).cells[j]? = some u → cur[i * sz + j]? = some u)
      (hzn : ∀ i d, z i d → Z d ∧ d ≠ b) (hap : ∀ i j d, z i d → z j d → i = j) : Tree w Z (.sl sz l) (.slice (some ⟨b, 0, none⟩) l.length c)
  | agg (Z : Nat → Prop) (l : List SV) (vs : Array Value) (z : Nat → Nat → Prop) (hn : vs.size = l.length) (h1 : ∀ (i : Nat) (u : Value), vs[i]? = some u → u.oneCell' = true)
      (h : ∀ (i : Nat) (s : SV) (u : Value), l[i]? = some s → vs[i]? = some u → Tree w (z i) s u) (hzn : ∀ i d, z i d → Z d) (hap : ∀ i j d, z i d → z j d → i = j) : Tree w Z (.agg l) (.agg vs)
theorem Tree.keep {w w' : World} {Z : Nat → Prop} {s : SV} {v : Value} (h : Tree w Z s v) (hk : ∀ b, Z b → w'.heap[b]? = w.heap[b]?) : Tree w' Z s v := by
  induction h with
  | raw Z v => exact .raw Z v
  | nil Z sz a c => exact .nil Z sz a c
  | sl Z sz T l b c cur vals z hb hl hc hz hcm hcs hg hel hsz hcl hzn hap ih => exact .sl Z sz T l b c cur vals z hb hl hc hz hcm hcs (by rw [hk b hb]; exact hg) (fun i s hi => ih i s hi fun d hd => hk d (hzn i d hd).1) hsz hcl hzn hap
  | agg Z l vs z hn h1 h hzn hap ih => exact .agg Z l vs z hn h1 (fun i s u hs hu => ih i s u hs hu fun d hd => hk d (hzn i d hd)) hzn hap
theorem Tree.mono {w : World} {Z Z' : Nat → Prop} {s : SV} {v : Value} (h : Tree w Z s v) (hz : ∀ b, Z b → Z' b) : Tree w Z' s v := by
  cases h with
  | raw Z v => exact .raw _ v
  | nil Z sz a c => exact .nil _ sz a c
  | sl Z sz T l b c cur vals z hb hl hc hz0 hcm hcs hg hel hsz hcl hzn hap => exact .sl _ sz T l b c cur vals z (hz b hb) hl hc hz0 hcm hcs hg hel hsz hcl (fun i d hd => ⟨hz d (hzn i d hd).1, (hzn i d hd).2⟩) hap
  | agg Z l vs z hn h1 h hzn hap => exact .agg _ l vs z hn h1 h (fun i d hd => hz d (hzn i d hd)) hap

inductive Rep (w : World) (O : Nat → Prop) : SV → Value → Prop
  | raw (v : Value) : Rep w O (.raw v) v
  | nil (sz : Nat) (a : Option Addr) (c : Nat) : Rep w O (.sl sz []) (.slice a 0 c)
  | sl (sz : Nat) (l : List SV) (b off c : Nat) (vals : Nat → Value) (hb : ¬ O b) (hl : 0 < l.length) (hc : l.length ≤ c) (hz : 0 < sz)
      (h1 : ∀ (i : Nat) (s : SV), l[i]? = some s → Rep w O s (vals i)) (h2 : ∀ i : Nat, i < l.length → (vals i).cells.size = sz)
      (h3 : ∀ i : Nat, i < l.length → ∀ (j : Nat) (u : Value), (vals i).cells[j]? = some u → w.cell? ⟨b, off + i * sz + j, none⟩ = some u) :
      Rep w O (.sl sz l) (.slice (some ⟨b, off, none⟩) l.length c)
  | agg (l : List SV) (vs : Array Value) (hn : vs.size = l.length) (h1 : ∀ (i : Nat) (u : Value), vs[i]? = some u → u.oneCell' = true) (h : ∀ (i : Nat) (s : SV) (u : Value), l[i]? = some s → vs[i]? = some u → Rep w O s u) : Rep w O (.agg l) (.agg vs)
  | tup (l : List SV) (vs : Array Value) (hn : vs.size = l.length) (h : ∀ (i : Nat) (s : SV) (u : Value), l[i]? = some s → vs[i]? = some u → Rep w O s u) : Rep w O (.tup l) (.tuple vs)
  | ptr (p : SV) (b off : Nat) (v : Value) (hb : ¬ O b) (h : Rep w O p v) (hz : 0 < v.cells.size)
      (h3 : ∀ (j : Nat) (u : Value), v.cells[j]? = some u → w.cell? ⟨b, off + j, none⟩ = some u) : Rep w O (.ptr p) (.pointer (some ⟨b, off, none⟩))
  | tr (Z : Nat → Prop) (s : SV) (v : Value) (hT : Tree w Z s v) (hZ : ∀ b, Z b → b < w.heap.size ∧ ¬ O b) : Rep w O (.tr Z s v) v
  | clo (f : Nat) (l : List SV) (vs : Array Value) (hn : vs.size = l.length) (h : ∀ (i : Nat) (s : SV) (u : Value), l[i]? = some s → vs[i]? = some u → Rep w O s u) : Rep w O (.clo f l) (.func (.func f) #[] vs)
theorem Tree.rep {w : World} {O Z : Nat → Prop} {s : SV} {v : Value} (h : Tree w Z s v) (hO : ∀ b, Z b → ¬ O b) : Rep w O s v := by
  induction h with
  | raw Z v => exact .raw v
  | nil Z sz a c => exact .nil sz a c
  | sl Z sz T l b c cur vals z hb hl hc hz hcm hcs hg hel hsz hcl hzn hap ih =>
    refine .sl sz l b 0 c vals (hO b hb) hl hc hz (fun i s hi => ih i s hi fun d hd => hO d (hzn i d hd).1) hsz fun i hi j u hu => ?_
    have := hcl i hi j u hu
    rw [Nat.zero_add]
    simp [World.cell?, hg, this]
  | agg Z l vs z hn h1 h hzn hap ih => exact .agg l vs hn h1 fun i s u hs hu => ih i s u hs hu fun d hd => hO d (hzn i d hd)

def Kp (w : World) (O : Nat → Prop) (w' : World) (O' : Nat → Prop) : Prop := ∀ b, b < w.heap.size → ¬ O b → w'.heap[b]? = w.heap[b]? ∧ ¬ O' b

theorem Rep.kp {w w' : World} {O O' : Nat → Prop} {s : SV} {v : Value} (h : Rep w O s v) (k : Kp w O w' O') : Rep w' O' s v := by
  induction h with
  | raw v => exact .raw v
  | nil sz a c => exact .nil sz a c
  | sl sz l b off c vals hb hl hc hz h1 h2 h3 ih =>
    have hlt : b < w.heap.size := by
      have hs := h2 0 hl
      have h0 : 0 < (vals 0).cells.size := by omega
      exact World.block_lt_of_cell? w _ (h3 0 hl 0 _ (Array.getElem?_eq_getElem h0))
    obtain ⟨hk, hb'⟩ := k b hlt hb
    exact .sl sz l b off c vals hb' hl hc hz ih h2 fun i hi j u hu => (World.cell?_of_block (w := w) hk).trans (h3 i hi j u hu)
  | agg l vs hn h1 h ih => exact .agg l vs hn h1 ih
  | tup l vs hn h ih => exact .tup l vs hn ih
  | clo f l vs hn h ih => exact .clo f l vs hn ih
  | ptr p b off v hb h hz h3 ih =>
    have hlt : b < w.heap.size := World.block_lt_of_cell? w _ (h3 0 _ (Array.getElem?_eq_getElem hz))
    obtain ⟨hk, hb'⟩ := k b hlt hb
    exact .ptr p b off v hb' ih hz fun j u hu => (World.cell?_of_block (w := w) hk).trans (h3 j u hu)
  | tr Z s v hT hZ =>
    refine .tr Z s v (hT.keep fun b hb => (k b (hZ b hb).1 (hZ b hb).2).1) fun b hb => ⟨?_, (k b (hZ b hb).1 (hZ b hb).2).2⟩
    have h1 := (k b (hZ b hb).1 (hZ b hb).2).1
    rw [Array.getElem?_eq_getElem (hZ b hb).1] at h1
    exact (Array.getElem?_eq_some_iff.1 h1).1

inductive LV where
  | sv (s : SV)
  | ptr (k j : Nat)
  | own (k : Nat)
  | eptr (k sz i j : Nat)
  | osub (k sz i : Nat)
  | av (Z : Nat → Prop) (s : SV)
  | cfn (f : Nat) (ks : List Nat)
  | dead
  deriving Inhabited

inductive Ent where
  | box (cells : List LV)
  | row (sz : Nat) (T : TypeId) (l : List SV)
  | map (kk : IntKind) (es : List (Int × Value))
  | rowl (T : TypeId) (cells : List LV)

structure St where
  t : List (Nat × LV)
  h : List (Nat × Ent)

def blk : Value → Option Nat
  | .slice (some a) _ _ => some a.block
  | .pointer (some a) => some a.block
  | .map (some r) => some r
  | _ => none

def LRep (w : World) (O : Nat → Prop) (ρ : Nat → Value) : LV → Value → Prop
  | .sv s, v => Rep w O s v
  | .ptr k j, v => ∃ b, ρ k = .pointer (some ⟨b, 0, none⟩) ∧ v = .pointer (some ⟨b, j, none⟩)
  | .own k, v => v = ρ k
  | .eptr k sz i j, v => ∃ b n c, ρ k = .slice (some ⟨b, 0, none⟩) n c ∧ v = .pointer (some ⟨b, i * sz + j, none⟩)
  | .osub k sz i, v => ∃ b n c, ρ k = .slice (some ⟨b, 0, none⟩) n c ∧ v = .slice (if c = i then some ⟨b, 0, none⟩ else some ⟨b, i * sz, none⟩) (n - i) (c - i)
  | .av Z s, v => Rep w (fun b => O b ∨ Z b) s v
  | .cfn f ks, v => v = .func (.func f) #[] (ks.map ρ).toArray
  | .dead, _ => True

def ERep (w : World) (O : Nat → Prop) (ρ : Nat → Value) (k : Nat) : Ent → Prop
  | .box cells => ∃ b T cur, ρ k = .pointer (some ⟨b, 0, none⟩) ∧ w.heap[b]? = some (.cells cur T (0, 0)) ∧ cur.size = cells.length ∧
      ∀ (j : Nat) (lv : LV) (u : Value), cells[j]? = some lv → cur[j]? = some u → LRep w O ρ lv u ∧ u.oneCell' = true
  | .row sz T l => 0 < sz ∧ ∃ (xs : List Value) (vals : Nat → Value), w.ownsRow 0 T sz (ρ k) l.length xs ∧
      ∀ (i : Nat) (s : SV), l[i]? = some s → Rep w O s (vals i) ∧ (vals i).cells.size = sz ∧ ∀ (j : Nat) (u : Value), (vals i).cells[j]? = some u → xs[i * sz + j]? = some u

  | .map kk es => ∃ r en cl, ρ k = .map (some r) ∧ w.heap[r]? = some (.map en cl) ∧ en.toList.map (fun e => (e.key, e.val)) = es.map (fun p => (.int kk p.1, p.2))
  | .rowl T cells => ∃ xs : List Value, w.ownsRow 0 T 1 (ρ k) cells.length xs ∧ ∀ (j : Nat) (lv : LV) (u : Value), cells[j]? = some lv → xs[j]? = some u → LRep w O ρ lv u ∧ u.oneCell' = true

structure Ctx where
  P : Program
  w0 : World
  O : Nat → Prop
  M : Nat → Prop
  inn : Nat → Option Value
  n : Nat

def Own (Γ : Ctx) (h : List (Nat × Ent)) (ρ : Nat → Value) (b : Nat) : Prop := Γ.O b ∨ ∃ k e, h.lookup k = some e ∧ blk (ρ k) = some b

structure Frm (Γ : Ctx) (w : World) : Prop where
  os : w.os = Γ.w0.os
  tape : w.tape = Γ.w0.tape
  output : w.output = Γ.w0.output
  size : Γ.w0.heap.size ≤ w.heap.size
  block : ∀ b, b < Γ.w0.heap.size → ¬ Γ.M b → w.heap[b]? = Γ.w0.heap[b]?

structure Iv (Γ : Ctx) (σ : St) (ρ : Nat → Value) (a : Act) (w : World) : Prop where
  dfr : a.defers = []
  size : a.tmps.size = Γ.n
  frm : Frm Γ w
  tmp : ∀ t lv, σ.t.lookup t = some lv → LRep w (Own Γ σ.h ρ) ρ lv (a.tmps.getD t undef)
  ent : ∀ k e, σ.h.lookup k = some e → ERep w (Own Γ σ.h ρ) ρ k e
  new : ∀ k e b, σ.h.lookup k = some e → blk (ρ k) = some b → (Γ.w0.heap.size ≤ b ∨ Γ.M b) ∧ b < w.heap.size
  sep : ∀ k k' e e' b, σ.h.lookup k = some e → σ.h.lookup k' = some e' → blk (ρ k) = some b → blk (ρ k') = some b → k = k'
  out : ∀ b, Γ.O b → b < Γ.w0.heap.size ∧ ¬ Γ.M b
  inn : ∀ k v, Γ.inn k = some v → ρ k = v

def Inv (Γ : Ctx) (σ : St) (a : Act) (w : World) : Prop := ∃ ρ, Iv Γ σ ρ a w

def St.ev (σ : St) : Operand → LV
  | .tmp t => (σ.t.lookup t).getD .dead
  | .const v => .sv (.raw v)
  | .func f => .sv (.raw (.func (.func f) #[] #[]))
  | .global _ => .dead

def ins {α : Type} (d : Nat) (v : α) : List (Nat × α) → List (Nat × α)
  | [] => [(d, v)]
  | (d', v') :: t => if d' = d then (d, v) :: t else (d', v') :: ins d v t

theorem lookup_ins {α : Type} (d : Nat) (v : α) (t : Nat) : ∀ l : List (Nat × α), (ins d v l).lookup t = if t = d then some v else l.lookup t
  | [] => by
    simp only [ins, List.lookup_cons]
    by_cases h : t = d
    · subst h; simp
    · have : (t == d) = false := by simpa using h
      simp [this, h]
  | (d', v') :: l => by
    have ih := lookup_ins d v t l
    simp only [ins]
    by_cases hd : d' = d
    · subst hd
      simp only [if_true, List.lookup_cons]
      by_cases h : t = d'
      · subst h; simp
      · have : (t == d') = false := by simpa using h
        simp [this, h]
    · simp only [hd, if_false, List.lookup_cons, ih]
      by_cases h : t = d'
      · subst h; simp [hd]
      · have : (t == d') = false := by simpa using h
        simp [this]

def St.put (σ : St) (d : Option Nat) (lv : LV) : St :=
  match d with
  | none => σ
  | some d => { σ with t := (d, lv) :: σ.t }

theorem LRep.kp {w w' : World} {O O' : Nat → Prop} {ρ : Nat → Value} {lv : LV} {v : Value} (h : LRep w O ρ lv v) (k : Kp w O w' O') : LRep w' O' ρ lv v := by
  cases lv with
  | sv s => exact Rep.kp h k
  | av Z s =>
    refine Rep.kp (O := fun b => O b ∨ Z b) (O' := fun b => O' b ∨ Z b) h fun b hb hno => ?_
    obtain ⟨h1, h2⟩ := k b hb fun h => hno (.inl h)
    exact ⟨h1, fun h => h.elim h2 fun h => hno (.inr h)⟩
  | _ => exact h

theorem Kp.refl (w : World) (O : Nat → Prop) : Kp w O w O := fun _ _ h => ⟨rfl, h⟩

theorem ekp {w w' : World} (h : Ext w w') (O : Nat → Prop) : Kp w O w' O := fun b hb hn => ⟨h.block b hb, hn⟩

theorem blk_lt {Γ : Ctx} {σ : St} {ρ : Nat → Value} {a : Act} {w : World} (h : Iv Γ σ ρ a w) {b : Nat} (hb : Own Γ σ.h ρ b) : b < w.heap.size := by
  rcases hb with hb | ⟨k, e, hk, hr⟩
  · exact Nat.lt_of_lt_of_le (h.out b hb).1 h.frm.size
  · exact (h.new k e b hk hr).2

theorem ERep.ext {w w' : World} {O : Nat → Prop} {ρ : Nat → Value} {k : Nat} {e : Ent} (h : ERep w O ρ k e) (hx : Ext w w') : ERep w' O ρ k e := by
  have kp := ekp hx O
  cases e with
  | box cells =>
    obtain ⟨b, T, cur, h1, h2, h3, h4⟩ := h
    refine ⟨b, T, cur, h1, ?_, h3, fun j lv u hj hu => ⟨(h4 j lv u hj hu).1.kp kp, (h4 j lv u hj hu).2⟩⟩
    rw [hx.block b (Array.getElem?_eq_some_iff.1 h2).1]; exact h2
  | row sz T l =>
    obtain ⟨hz, xs, vals, h1, h2⟩ := h
    refine ⟨hz, xs, vals, ?_, fun i s hi => ⟨(h2 i s hi).1.kp kp, (h2 i s hi).2⟩⟩
    refine ⟨h1.1, ?_⟩
    rcases h1.2 with hn | ⟨g, cap, cur, hv, hb, hg, rest⟩
    · exact .inl hn
    · exact .inr ⟨g, cap, cur, hv, hb, by rw [hx.block g (Array.getElem?_eq_some_iff.1 hg).1]; exact hg, rest⟩
  | map kk es =>
    obtain ⟨r, en, cl, h1, h2, h3⟩ := h
    exact ⟨r, en, cl, h1, by rw [hx.block r (Array.getElem?_eq_some_iff.1 h2).1]; exact h2, h3⟩
  | rowl T cells =>
    obtain ⟨xs, h1, h2⟩ := h
    refine ⟨xs, ⟨h1.1, ?_⟩, fun j lv u hj hu => ⟨(h2 j lv u hj hu).1.kp kp, (h2 j lv u hj hu).2⟩⟩
    rcases h1.2 with hn | ⟨g, cap, cur, hv, hb, hg, rest⟩
    · exact .inl hn
    · exact .inr ⟨g, cap, cur, hv, hb, by rw [hx.block g (Array.getElem?_eq_some_iff.1 hg).1]; exact hg, rest⟩

theorem Frm.ext {Γ : Ctx} {w w' : World} (h : Frm Γ w) (hx : Ext w w') : Frm Γ w' :=
  ⟨hx.os.trans h.os, hx.tape.trans h.tape, hx.output.trans h.output, Nat.le_trans h.size hx.size, fun b hb hm => (hx.block b (Nat.lt_of_lt_of_le hb h.size)).trans (h.block b hb hm)⟩

theorem Iv.ext {Γ : Ctx} {σ : St} {ρ : Nat → Value} {a : Act} {w w' : World} (h : Iv Γ σ ρ a w) (hx : Ext w w') : Iv Γ σ ρ a w' :=
  ⟨h.dfr, h.size, h.frm.ext hx, fun t lv ht => (h.tmp t lv ht).kp (ekp hx _), fun k e hk => (h.ent k e hk).ext hx,
    fun k e b hk hb => ⟨(h.new k e b hk hb).1, Nat.lt_of_lt_of_le (h.new k e b hk hb).2 hx.size⟩, h.sep, h.out, h.inn⟩

theorem Iv.ev {Γ : Ctx} {σ : St} {ρ : Nat → Value} {a : Act} {w : World} (h : Iv Γ σ ρ a w) (x : Operand) : LRep w (Own Γ σ.h ρ) ρ (σ.ev x) (a.eval x) := by
  cases x with
  | tmp t =>
    simp only [St.ev, Act.eval]
    cases hl : σ.t.lookup t with
    | none => exact trivial
    | some lv => exact h.tmp t lv hl
  | const v => exact Rep.raw v
  | func f => exact Rep.raw _
  | global g => exact trivial

theorem Iv.put {Γ : Ctx} {σ : St} {ρ : Nat → Value} {a : Act} {w : World} (h : Iv Γ σ ρ a w) {d : Option Nat} {lv : LV} {v : Value} (hd : ∀ k, d = some k → k < Γ.n) (hv : LRep w (Own Γ σ.h ρ) ρ lv v) : Iv Γ (σ.put d lv) ρ (a.put d v) w := by
  cases d with
  | none => exact h
  | some d =>
    have hd' := hd d rfl
    refine ⟨h.dfr, by simpa [Act.put] using h.size, h.frm, ?_, h.ent, h.new, h.sep, h.out, h.inn⟩
    intro t lv' ht
    simp only [St.put, List.lookup_cons] at ht
    simp only [Act.put]
    by_cases htd : t = d
    · subst htd
      simp only [BEq.rfl, Option.some.injEq] at ht
      subst ht
      have hs : t < a.tmps.size := by rw [h.size]; exact hd'
      rw [Array.getD_eq_getD_getElem?, Array.getElem?_setIfInBounds_self_of_lt hs]; exact hv
    · have h1 : (t == d) = false := by simpa using htd
      simp only [h1] at ht
      have := h.tmp t lv' ht
      rw [Array.getD_eq_getD_getElem?, Array.getElem?_setIfInBounds_ne (Ne.symm htd), ← Array.getD_eq_getD_getElem?]
      exact this
end Go.Abs

/- What single operations do to a frame of plain values: those that touch no memory. No condition. -/
namespace Go.Abs
open Go Go.RowKit Go.Eager

def aggOf (P : Program) (t : TypeId) : Option Bool := (P.underlying t).map fun | .struct _ | .array _ _ => true | _ => false
def szOf (P : Program) (t : TypeId) : Option Nat := (P.info? t).map (·.size)
def elOf (P : Program) (t : TypeId) : Option (Nat × Nat) := match P.underlying t with | some (.slice e) => (szOf P e).map fun n => (e, n) | _ => none
def fdOf (P : Program) (s : TypeId) (f : Nat) : Option (Nat × Nat × Bool) :=
  match P.underlying s with
  | some (.struct fs) => match fs[f]? with
    | some x => match szOf P x.type, aggOf P x.type with | some n, some g => some (x.offset, n, g) | _, _ => none
    | none => none
  | _ => none
def strOf (P : Program) (t : TypeId) : Bool := match P.underlying t with | some .string => true | _ => false
def inkOf (P : Program) (t : TypeId) : Option IntKind := match P.underlying t with | some (.int k) => some k | _ => none

theorem run_isAgg {P : Program} {t : TypeId} {b : Bool} (h : aggOf P t = some b) (w : World) : (isAgg t).run P w = .ok b w := by
  unfold aggOf at h
  cases hu : P.underlying t with
  | none => simp [hu] at h
  | some d =>
    simp only [hu, Option.map_some, Option.some.injEq] at h
    subst h
    unfold isAgg
    cases d <;> simp [run_underlying hu]

theorem run_sizeOf {P : Program} {t : TypeId} {n : Nat} (h : szOf P t = some n) (w : World) : (sizeOf t).run P w = .ok n w := by
  unfold szOf at h
  cases hi : P.info? t with
  | none => simp [hi] at h
  | some i => simp [hi] at h; subst h; simp [sizeOf, typeInfo, hi]

theorem oneCell_cells {v : Value} (h : v.oneCell' = true) : v.cells = #[v] := by cases v <;> simp [Value.oneCell'] at h <;> rfl

def SV.one : SV → Bool
  | .raw v => v.oneCell'
  | .agg _ | .tup _ => false
  | .tr _ s _ => match s with | .sl _ _ => true | _ => false
  | _ => true

theorem Rep.oneCell {w : World} {O : Nat → Prop} {s : SV} {v : Value} (h : Rep w O s v) (h1 : s.one = true) : v.oneCell' = true := by
  cases h with
  | raw v => simpa [SV.one] using h1
  | nil => rfl
  | sl => rfl
  | agg => simp [SV.one] at h1
  | tup => simp [SV.one] at h1
  | ptr => rfl
  | tr Z s v hT hZ => cases hT <;> first | rfl | (simp [SV.one] at h1)
  | clo => rfl

def vInt (op : BinOp) (k : IntKind) (x y : Int) : Option Value :=
  match op with
  | .add => some (.int k (k.wrap (x + y)))
  | .sub => some (.int k (k.wrap (x - y)))
  | .mul => some (.int k (k.wrap (x * y)))
  | .quo => if y = 0 then none else some (.int k (k.wrap (x.tdiv y)))
  | .rem => if y = 0 then none else some (.int k (x.tmod y))
  | .and => some (.int k (bits .and k x y))
  | .or => some (.int k (bits .or k x y))
  | .xor => some (.int k (bits .xor k x y))
  | .eql => some (.bool (decide (x = y)))
  | .neq => some (.bool (decide (x ≠ y)))
  | .lss => some (.bool (decide (x < y)))
  | .leq => some (.bool (decide (x ≤ y)))
  | .gtr => some (.bool (decide (y < x)))
  | .geq => some (.bool (decide (y ≤ x)))
  | _ => none
def vStr (op : BinOp) (x y : ByteArray) : Option Value :=
  match op with
  | .add => if x.size + y.size ≤ 9223372036854775807 then some (.string (x ++ y)) else none
  | .eql => some (.bool (decide (x.data.toList = y.data.toList)))
  | .neq => some (.bool (!decide (x.data.toList = y.data.toList)))
  | .lss => some (.bool (Op.bytesLess x.data.toList y.data.toList))
  | .leq => some (.bool (Op.bytesLess x.data.toList y.data.toList || decide (x.data.toList = y.data.toList)))
  | .gtr => some (.bool (!(Op.bytesLess x.data.toList y.data.toList || decide (x.data.toList = y.data.toList))))
  | .geq => some (.bool (!Op.bytesLess x.data.toList y.data.toList))
  | _ => none
def vBin (op : BinOp) : Value → Value → Option Value
  | .int k x, .int k' y =>
    match op with
    | .shl => if 0 ≤ y ∧ y ≤ k.bits then some (.int k (k.wrap (x * 2 ^ y.toNat))) else none
    | .shr => if 0 ≤ y ∧ y ≤ k.bits then some (.int k (x / 2 ^ y.toNat)) else none
    | _ => if k = k' then vInt op k x y else none
  | .string x, .string y => vStr op x y
  | _, _ => none
def vUn (op : UnOp) : Value → Option Value
  | .int k n => match op with | .neg => some (.int k (k.wrap (0 - n))) | _ => none
  | .bool b => match op with | .not => some (.bool (!b)) | _ => none
  | _ => none

theorem vUn_run {P : Program} {op : UnOp} {u r : Value} (h : vUn op u = some r) (w : World) : (Op.unary op u).run P w = .ok r w := by
  unfold vUn at h
  cases u <;> simp only [] at h <;> (try cases h)
  · cases op <;> simp at h
    subst h; rfl
  · cases op <;> simp at h
    subst h; simp [Op.unary, Op.intArith]

theorem vBin_run {P : Program} {op : BinOp} {u v r : Value} (h : vBin op u v = some r) (t : TypeId) (x y : Operand) (w : World) :
    (do eqGuard op t x y u v; binOp op t u v : Sem Value).run P w = .ok r w := by
  unfold vBin at h
  cases u <;> cases v <;> simp only [] at h <;> (try cases h)
  · rename_i k a k' b
    by_cases h1 : op = .shl
    · subst h1
      simp only [] at h
      split at h
      · rename_i hb; cases h; simp [eqGuard, binOp, shift_shl k k' a b hb.1 hb.2]
      · cases h
    by_cases h2 : op = .shr
    · subst h2
      simp only [] at h
      split at h
      · rename_i hb; cases h; simp [eqGuard, binOp, shift_shr k k' a b hb.1 hb.2]
      · cases h
    have h3 : (if k = k' then vInt op k a b else none) = some r := by cases op <;> first | exact h | (exact absurd rfl h1) | (exact absurd rfl h2)
    split at h3
    · rename_i hk; subst hk
      unfold vInt at h3
      cases op <;> simp only [] at h3 <;> (try (exact absurd rfl h1)) <;> (try (exact absurd rfl h2)) <;> (try cases h3) <;> (try (split at h3 <;> cases h3)) <;>
        (try simp_all [eqGuard, binOp, Op.intArith, Op.intDiv, Op.intCmp, Op.intBits, bits]) <;> (try rfl)
      all_goals (first | (rw [Bool.beq_eq_decide_eq]) | (exact bne_eq_decide _ _) | skip)
    · cases h3
  · rename_i a b
    unfold vStr at h
    cases op <;> simp only [] at h <;> (try cases h)
    · split at h
      · rename_i hs; cases h
        have := run_string_add_sum (P := P) w a b hs
        simp [eqGuard, binOp, this]
      · cases h
    all_goals
      have he : (a.data.toList == b.data.toList) = decide (a.data.toList = b.data.toList) := by rw [Bool.eq_iff_iff]; simp
      simp only [eqGuard, binOp, Op.stringOp, ByteArray.toList_eq, he]
      first | rfl | simp

def vBinP (P : Program) (t : TypeId) (op : BinOp) (u v : Value) : Option Value :=
  match u, v with
  | .bool x, .bool y => (match P.underlying t with | some .bool => (match op with | .eql => some (.bool (x == y)) | .neq => some (.bool (x != y)) | _ => none) | _ => none)
  | _, _ => vBin op u v
theorem vBinP_of {P : Program} {t : TypeId} {op : BinOp} {u v r : Value} (h : vBin op u v = some r) : vBinP P t op u v = some r := by
  unfold vBinP
  split
  · simp [vBin] at h
  · exact h
theorem vBinP_run {P : Program} {op : BinOp} {u v r : Value} {t : TypeId} (h : vBinP P t op u v = some r) (x y : Operand) (w : World) :
    (do eqGuard op t x y u v; binOp op t u v : Sem Value).run P w = .ok r w := by
  unfold vBinP at h
  split at h
  · rename_i a b
    split at h
    · rename_i hu
      have e : (Op.equal t (.bool a) (.bool b)).run P w = .ok (a == b) w := by
        unfold Op.equal Op.maxDepth
        exact run_equalIn_bool w _ t a b hu
      cases op <;> simp only [] at h <;> (try cases h) <;> simp [eqGuard, binOp, e]
      cases a <;> cases b <;> rfl
    · cases h
  · exact vBin_run h t x y w

def stepP (P : Program) (σ : St) (op : Op) (K : LV → Prop) : Prop :=
  match op with
  | .move x | .assign x => K (σ.ev x)
  | .binOp b bt x y _ =>
    match σ.ev x, σ.ev y with
    | .sv (.raw u), .sv (.raw v) => ∃ r, vBinP P bt b u v = some r ∧ K (.sv (.raw r))
    | _, _ => False
  | .unOp b _ x =>
    match σ.ev x with
    | .sv (.raw u) => ∃ r, vUn b u = some r ∧ K (.sv (.raw r))
    | _ => False
  | .pick c a b =>
    match σ.ev c with
    | .sv (.raw (.bool t)) => (t = true → K (σ.ev a)) ∧ (t = false → K (σ.ev b))
    | _ => False
  | .nilCheck x =>
    match σ.ev x with
    | .sv (.ptr p) => K (.sv (.ptr p))
    | .ptr k j => K (.ptr k j)
    | .eptr k n i j => K (.eptr k n i j)
    | _ => False
  | .extract x i =>
    match σ.ev x with
    | .sv (.tup l) => ∃ p, l[i]? = some p ∧ K (.sv p)
    | _ => False
  | .fieldAddr s x f =>
    match σ.ev x with
    | .sv (.ptr (.agg l)) => ∃ r, fdOf P s f = some r ∧ 0 < r.2.1 ∧
        (r.2.2 = false → ∃ p, l[r.1]? = some p ∧ K (.sv (.ptr p))) ∧ (r.2.2 = true → r.1 + r.2.1 ≤ l.length ∧ K (.sv (.ptr (.agg ((l.drop r.1).take r.2.1)))))
    | .ptr k j => ∃ r, fdOf P s f = some r ∧ 0 < r.2.1 ∧ K (.ptr k (j + r.1))
    | .eptr k n i j => ∃ r, fdOf P s f = some r ∧ 0 < r.2.1 ∧ K (.eptr k n i (j + r.1))
    | _ => False
  | .field s x f =>
    match σ.ev x with
    | .sv (.agg l) => ∃ r, fdOf P s f = some r ∧
        (r.2.2 = false → ∃ p, l[r.1]? = some p ∧ K (.sv p)) ∧ (r.2.2 = true → r.1 + r.2.1 ≤ l.length ∧ K (.sv (.agg ((l.drop r.1).take r.2.1))))
    | _ => False
  | .indexAddr t x ix =>
    match σ.ev x, σ.ev ix with
    | .sv (.sl sz l), .sv (.raw (.int _ i)) => ∃ r, elOf P t = some r ∧ r.2 = sz ∧ 0 ≤ i ∧ ∃ p, l[i.toNat]? = some p ∧ K (.sv (.ptr p))
    | .own k, .sv (.raw (.int _ i)) => ∃ r, elOf P t = some r ∧ ∃ T l, σ.h.lookup k = some (.row r.2 T l) ∧ 0 ≤ i ∧ i.toNat < l.length ∧ K (.eptr k r.2 i.toNat 0)
    | _, _ => False
  | .index t x ix =>
    match σ.ev x, σ.ev ix with
    | .sv (.raw (.string s)), .sv (.raw (.int _ i)) => strOf P t = true ∧ 0 ≤ i ∧ ∃ b, s[i.toNat]? = some b ∧ K (.sv (.raw (.int .u8 b.toNat)))
    | _, _ => False
  | .slice t x lo hi none =>
    match σ.ev x with
    | .sv (.raw (.string s)) => strOf P t = true ∧ ∃ l h : Int, ((lo = none ∧ l = 0) ∨ ∃ o k, lo = some o ∧ σ.ev o = .sv (.raw (.int k l))) ∧
        ((hi = none ∧ h = s.size) ∨ ∃ o k, hi = some o ∧ σ.ev o = .sv (.raw (.int k h))) ∧ 0 ≤ l ∧ l ≤ h ∧ h ≤ s.size ∧ K (.sv (.raw (.string (s.extract l.toNat h.toNat))))
    | .sv (.sl sz r) => ∃ e, elOf P t = some e ∧ e.2 = sz ∧ ∃ l h : Int, ((lo = none ∧ l = 0) ∨ ∃ o k, lo = some o ∧ σ.ev o = .sv (.raw (.int k l))) ∧
        ((hi = none ∧ h = r.length) ∨ ∃ o k, hi = some o ∧ σ.ev o = .sv (.raw (.int k h))) ∧ 0 ≤ l ∧ l ≤ h ∧ h ≤ r.length ∧ K (.sv (.sl sz ((r.drop l.toNat).take (h - l).toNat)))
    | _ => False
  | .convert s d x =>
    match σ.ev x with
    | .sv (.raw (.int _ n)) => (aggOf P s).isSome = true ∧ ∃ k, inkOf P d = some k ∧ K (.sv (.raw (.int k (k.wrap n))))
    | .sv (.raw (.string b)) => strOf P s = true ∧ strOf P d = true ∧ K (.sv (.raw (.string b)))
    | _ => False
  | .call { callee := .builtin .len, args, argTypes } =>
    match args.toList, argTypes.toList with
    | [x], [t] =>
      match σ.ev x with
      | .sv (.raw (.string s)) => strOf P t = true ∧ K (.sv (.raw (.int .i64 s.size)))
      | .sv (.sl _ l) => (elOf P t).isSome = true ∧ K (.sv (.raw (.int .i64 l.length)))
      | .sv (.raw (.slice _ n _)) => (elOf P t).isSome = true ∧ K (.sv (.raw (.int .i64 n)))
      | .own k => (elOf P t).isSome = true ∧ ∃ sz T l, σ.h.lookup k = some (.row sz T l) ∧ K (.sv (.raw (.int .i64 l.length)))
      | _ => False
    | _, _ => False
  | .call { callee := .builtin .min, args, argTypes := _ } =>
    match args.toList with
    | [x, y] => match σ.ev x, σ.ev y with
      | .sv (.raw (.int k a)), .sv (.raw (.int _ b)) => K (.sv (.raw (.int k (if b < a then b else a))))
      | _, _ => False
    | _ => False
  | .call { callee := .builtin .max, args, argTypes := _ } =>
    match args.toList with
    | [x, y] => match σ.ev x, σ.ev y with
      | .sv (.raw (.int k a)), .sv (.raw (.int _ b)) => K (.sv (.raw (.int k (if b > a then b else a))))
      | _, _ => False
    | _ => False
  | _ => False

end Go.Abs

/- The operations that touch no memory do what is said of them. No condition. -/
namespace Go.Abs
open Go Go.RowKit Go.Eager

def PureOk (Γ : Ctx) (σ : St) (ρ : Nat → Value) (a : Act) (w : World) (o : Oper) (K : LV → Prop) : Prop :=
  ∃ lv v, K lv ∧ LRep w (Own Γ σ.h ρ) ρ lv v ∧ ∀ w', (execOp a.eval o).run Γ.P w' = .ok (.value v) w'

section
variable {Γ : Ctx} {σ : St} {ρ : Nat → Value} {a : Act} {w : World} {K : LV → Prop}

theorem raw_inv {O : Nat → Prop} {u v : Value} (h : LRep w O ρ (.sv (.raw u)) v) : v = u := by cases h; rfl
theorem ev_raw (I : Iv Γ σ ρ a w) {x : Operand} {u : Value} (h : σ.ev x = .sv (.raw u)) : a.eval x = u := by
  have := I.ev x; rw [h] at this; exact raw_inv this

theorem ok_move (I : Iv Γ σ ρ a w) {o : Oper} (x : Operand) (ho : o.op = .move x ∨ o.op = .assign x) (h : K (σ.ev x)) : PureOk Γ σ ρ a w o K := by
  refine ⟨_, _, h, I.ev x, fun w' => ?_⟩
  rcases ho with ho | ho <;> simp [execOp, ho]

theorem ok_binOp (I : Iv Γ σ ρ a w) {o : Oper} {b : BinOp} {t t' : TypeId} {x y : Operand} (ho : o.op = .binOp b t x y t') (h : stepP Γ.P σ o.op K) : PureOk Γ σ ρ a w o K := by
  rw [ho] at h
  simp only [stepP] at h
  split at h
  · rename_i u v hu hv
    obtain ⟨r, hr, hk⟩ := h
    refine ⟨_, r, hk, Rep.raw r, fun w' => ?_⟩
    have := vBinP_run (P := Γ.P) hr x y w'
    simp only [execOp, ho, ev_raw I hu, ev_raw I hv]
    simp only [Sem.run_bind, this]
    rfl
  · exact h.elim

theorem ok_unOp (I : Iv Γ σ ρ a w) {o : Oper} {b : UnOp} {t : TypeId} {x : Operand} (ho : o.op = .unOp b t x) (h : stepP Γ.P σ o.op K) : PureOk Γ σ ρ a w o K := by
  rw [ho] at h
  simp only [stepP] at h
  split at h
  · rename_i u hu
    obtain ⟨r, hr, hk⟩ := h
    refine ⟨_, r, hk, Rep.raw r, fun w' => ?_⟩
    have := vUn_run (P := Γ.P) hr w'
    simp [execOp, ho, ev_raw I hu, this]
  · exact h.elim

theorem ok_pick (I : Iv Γ σ ρ a w) {o : Oper} {c x y : Operand} (ho : o.op = .pick c x y) (h : stepP Γ.P σ o.op K) : PureOk Γ σ ρ a w o K := by
  rw [ho] at h
  simp only [stepP] at h
  split at h
  · rename_i t ht
    cases t
    · exact ⟨_, _, h.2 rfl, I.ev y, fun w' => by simp [execOp, ho, ev_raw I ht, asBool]⟩
    · exact ⟨_, _, h.1 rfl, I.ev x, fun w' => by simp [execOp, ho, ev_raw I ht, asBool]⟩
  · exact h.elim

theorem ok_nilCheck (I : Iv Γ σ ρ a w) {o : Oper} {x : Operand} (ho : o.op = .nilCheck x) (h : stepP Γ.P σ o.op K) : PureOk Γ σ ρ a w o K := by
  rw [ho] at h
  simp only [stepP] at h
  have hx := I.ev x
  split at h
  · rename_i p hp
    rw [hp] at hx
    generalize hv : a.eval x = v at hx
    cases hx with
    | ptr _ b off u hb hr hz h3 => exact ⟨_, _, h, Rep.ptr p b off u hb hr hz h3, fun w' => by simp [execOp, ho, hv]⟩
  · rename_i k j hp
    rw [hp] at hx
    obtain ⟨b, h1, h2⟩ := hx
    exact ⟨_, _, h, ⟨b, h1, h2⟩, fun w' => by simp [execOp, ho, h2]⟩
  · rename_i k n i j hp
    rw [hp] at hx
    obtain ⟨b, m, c, h1, h2⟩ := hx
    exact ⟨_, _, h, ⟨b, m, c, h1, h2⟩, fun w' => by simp [execOp, ho, h2]⟩
  · exact h.elim

theorem ok_extract (I : Iv Γ σ ρ a w) {o : Oper} {x : Operand} {i : Nat} (ho : o.op = .extract x i) (h : stepP Γ.P σ o.op K) : PureOk Γ σ ρ a w o K := by
  rw [ho] at h
  simp only [stepP] at h
  have hx := I.ev x
  split at h
  · rename_i l hp
    rw [hp] at hx
    obtain ⟨p, hl, hk⟩ := h
    generalize hv : a.eval x = v at hx
    cases hx with
    | tup _ vs hn hr =>
      have hlt : i < vs.size := by rw [hn]; exact (List.getElem?_eq_some_iff.1 hl).1
      have hu : vs[i]? = some vs[i] := Array.getElem?_eq_getElem hlt
      exact ⟨_, _, hk, hr i p _ hl hu, fun w' => by simp [execOp, ho, hv, Instr.extract, hu]⟩
  · exact h.elim

theorem fdOf_spec {P : Program} {s : TypeId} {f off n : Nat} {g : Bool} (h : fdOf P s f = some (off, n, g)) :
    ∃ fs x, P.underlying s = some (.struct fs) ∧ fs[f]? = some x ∧ x.offset = off ∧ szOf P x.type = some n ∧ aggOf P x.type = some g := by
  unfold fdOf at h
  split at h
  · rename_i fs hfs
    split at h
    · rename_i x hx
      split at h
      · rename_i m g' hm hg
        simp only [Option.some.injEq, Prod.mk.injEq] at h
        obtain ⟨rfl, rfl, rfl⟩ := h
        exact ⟨fs, x, hfs, hx, rfl, hm, hg⟩
      · cases h
    · cases h
  · cases h

theorem run_fieldAt {P : Program} {s : TypeId} {f off n : Nat} {g : Bool} (h : fdOf P s f = some (off, n, g)) (hn : 0 < n) (b o : Nat) (w : World) :
    (Instr.fieldAt s (.pointer (some ⟨b, o, none⟩)) f).run P w = .ok (.pointer (some ⟨b, o + off, none⟩)) w := by
  obtain ⟨fs, x, hfs, hx, ho, hm, hg⟩ := fdOf_spec h
  have hadd : (⟨b, o, none⟩ : Addr).add off = ⟨b, o + off, none⟩ := by unfold Addr.add; split <;> simp_all
  have hn' : n ≠ 0 := by omega
  simp [Instr.fieldAt, run_underlying hfs, hx, Instr.sureAddr, fieldPlace, run_sizeOf hm, hn', ho, hadd]

theorem agg_part {O : Nat → Prop} {l : List SV} {vs : Array Value} (h : Rep w O (.agg l) (.agg vs)) (off n : Nat) (hle : off + n ≤ l.length) : Rep w O (.agg ((l.drop off).take n)) (.agg (vs.extract off (off + n))) := by
  cases h with
  | agg _ _ hn h1 hr =>
    refine .agg _ _ (by simp; omega) (fun i u hu => ?_) (fun i s u hs hu => ?_)
    · rw [Array.getElem?_extract] at hu
      split at hu
      · exact h1 _ u hu
      · cases hu
    · rw [Array.getElem?_extract] at hu
      rw [List.getElem?_take] at hs
      split at hs
      · rw [List.getElem?_drop] at hs
        split at hu
        · exact hr (off + i) s u hs hu
        · cases hu
      · cases hs

theorem agg_cell {O : Nat → Prop} {l : List SV} {vs : Array Value} (h : Rep w O (.agg l) (.agg vs)) {i : Nat} {p : SV} (hp : l[i]? = some p) : ∃ u, vs[i]? = some u ∧ Rep w O p u ∧ u.oneCell' = true := by
  cases h with
  | agg _ _ hn h1 hr =>
    have hlt : i < vs.size := by rw [hn]; exact (List.getElem?_eq_some_iff.1 hp).1
    have hu : vs[i]? = some vs[i] := Array.getElem?_eq_getElem hlt
    exact ⟨vs[i], hu, hr i p _ hp hu, h1 i _ hu⟩

theorem agg_inv {O : Nat → Prop} {l : List SV} {v : Value} (h : Rep w O (.agg l) v) : ∃ vs, v = .agg vs ∧ vs.size = l.length := by
  cases h with
  | agg _ vs hn _ _ => exact ⟨vs, rfl, hn⟩

theorem ok_fieldAddr (I : Iv Γ σ ρ a w) {o : Oper} {x : Operand} {s f : Nat} (ho : o.op = .fieldAddr s x f) (h : stepP Γ.P σ o.op K) : PureOk Γ σ ρ a w o K := by
  rw [ho] at h
  simp only [stepP] at h
  have hx := I.ev x
  split at h
  · rename_i l hp
    rw [hp] at hx
    obtain ⟨⟨off, n, g⟩, hf, hn, h0, h1⟩ := h
    generalize hv : a.eval x = v at hx
    cases hx with
    | ptr _ b o' u hb hr hz h3 =>
      obtain ⟨vs, rfl, hsz⟩ := agg_inv hr
      have run : ∀ w', (execOp a.eval o).run Γ.P w' = .ok (.value (.pointer (some ⟨b, o' + off, none⟩))) w' := fun w' => by
        simp [execOp, ho, hv, run_fieldAt hf hn]
      cases g with
      | false =>
        obtain ⟨p, hl, hk⟩ := h0 rfl
        obtain ⟨u, hu, hru, hone⟩ := agg_cell hr hl
        refine ⟨_, _, hk, Rep.ptr p b (o' + off) u hb hru (by rw [oneCell_cells hone]; simp) ?_, run⟩
        intro j u' hj
        rw [oneCell_cells hone] at hj
        have : j = 0 := by cases j with | zero => rfl | succ j => simp at hj
        subst this
        simp at hj; subst hj
        have := h3 off u hu
        simpa using this
      | true =>
        obtain ⟨hle, hk⟩ := h1 rfl
        simp only at hle hk hn
        refine ⟨_, _, hk, Rep.ptr _ b (o' + off) (.agg (vs.extract off (off + n))) hb (agg_part hr off n hle) (by simp [Value.cells]; omega) ?_, run⟩
        intro j u' hj
        simp only [Value.cells] at hj
        rw [Array.getElem?_extract] at hj
        split at hj
        · have := h3 (off + j) u' (by simpa [Value.cells] using hj)
          simpa [Nat.add_assoc] using this
        · cases hj
  · rename_i k j hp
    rw [hp] at hx
    obtain ⟨⟨off, n, g⟩, hf, hn, hk⟩ := h
    obtain ⟨b, h1, h2⟩ := hx
    exact ⟨_, _, hk, ⟨b, h1, rfl⟩, fun w' => by simp [execOp, ho, h2, run_fieldAt hf hn]⟩
  · rename_i k m i j hp
    rw [hp] at hx
    obtain ⟨⟨off, n, g⟩, hf, hn, hk⟩ := h
    obtain ⟨b, n', c, h1, h2⟩ := hx
    exact ⟨_, _, hk, ⟨b, n', c, h1, rfl⟩, fun w' => by simp [execOp, ho, h2, run_fieldAt hf hn, Nat.add_assoc]⟩
  · exact h.elim

theorem run_part_one {P : Program} {t : TypeId} (h : aggOf P t = some false) {cs : Array Value} {off : Nat} {u : Value} (hu : cs[off]? = some u) (w : World) : (part t cs off).run P w = .ok u w := by
  simp [part, run_isAgg h, hu]
theorem run_part_agg {P : Program} {t n : Nat} (h : aggOf P t = some true) (hs : szOf P t = some n) {cs : Array Value} {off : Nat} (w : World) : (part t cs off).run P w = .ok (.agg (cs.extract off (off + n))) w := by
  simp [part, run_isAgg h, run_sizeOf hs]

theorem ok_field (I : Iv Γ σ ρ a w) {o : Oper} {x : Operand} {s f : Nat} (ho : o.op = .field s x f) (h : stepP Γ.P σ o.op K) : PureOk Γ σ ρ a w o K := by
  rw [ho] at h
  simp only [stepP] at h
  have hx := I.ev x
  split at h
  · rename_i l hp
    rw [hp] at hx
    obtain ⟨⟨off, n, g⟩, hf, h0, h1⟩ := h
    obtain ⟨fs, y, hfs, hy, hoff, hm, hg⟩ := fdOf_spec hf
    obtain ⟨vs, hv, hsz⟩ := agg_inv hx
    rw [hv] at hx
    cases g with
    | false =>
      obtain ⟨p, hl, hk⟩ := h0 rfl
      obtain ⟨u, hu, hru, hone⟩ := agg_cell hx hl
      exact ⟨_, u, hk, hru, fun w' => by simp [execOp, ho, hv, Instr.field, run_underlying hfs, hy, asAgg, hoff, run_part_one hg hu]⟩
    | true =>
      obtain ⟨hle, hk⟩ := h1 rfl
      exact ⟨_, _, hk, agg_part hx off n hle, fun w' => by simp [execOp, ho, hv, Instr.field, run_underlying hfs, hy, asAgg, hoff, run_part_agg hg hm]⟩
  · exact h.elim

theorem elOf_spec {P : Program} {t e n : Nat} (h : elOf P t = some (e, n)) : P.underlying t = some (.slice e) ∧ szOf P e = some n := by
  unfold elOf at h
  split at h
  · rename_i e' he
    cases hs : szOf P e' with
    | none => simp [hs] at h
    | some m => simp [hs] at h; obtain ⟨rfl, rfl⟩ := h; exact ⟨he, hs⟩
  · cases h

theorem run_indexAt_sl {P : Program} {t e n : Nat} (h : elOf P t = some (e, n)) (b off len c : Nat) (k : IntKind) (i : Int) (h0 : 0 ≤ i) (h1 : i.toNat < len) (w : World) :
    (Instr.indexAt t (.slice (some ⟨b, off, none⟩) len c) (.int k i)).run P w = .ok (.pointer (some ⟨b, off + i.toNat * n, none⟩)) w := by
  obtain ⟨hu, hs⟩ := elOf_spec h
  have hadd : ∀ m, (⟨b, off, none⟩ : Addr).add m = ⟨b, off + m, none⟩ := fun m => by unfold Addr.add; split <;> simp_all
  have h2 : i < (len : Int) := by omega
  simp [Instr.indexAt, run_underlying hu, asIntOf, h0, h2, run_sizeOf hs, hadd]

theorem ok_indexAddr (I : Iv Γ σ ρ a w) {o : Oper} {x ix : Operand} {t : Nat} (ho : o.op = .indexAddr t x ix) (h : stepP Γ.P σ o.op K) : PureOk Γ σ ρ a w o K := by
  rw [ho] at h
  simp only [stepP] at h
  have hx := I.ev x
  split at h
  · rename_i sz l k i hp hi
    rw [hp] at hx
    obtain ⟨⟨e, n⟩, he, rfl, h0, p, hl, hk⟩ := h
    have hlt := (List.getElem?_eq_some_iff.1 hl).1
    generalize hv : a.eval x = v at hx
    cases hx with
    | nil => simp at hl
    | sl _ _ b off c vals hb hpos hc hz h1 h2 h3 =>
      refine ⟨_, _, hk, Rep.ptr p b (off + i.toNat * n) (vals i.toNat) hb (h1 _ p hl) (by rw [h2 _ hlt]; exact hz) ?_, fun w' => ?_⟩
      · intro j u hu; exact h3 _ hlt j u hu
      · simp [execOp, ho, hv, ev_raw I hi, run_indexAt_sl he b off l.length c k i h0 hlt]
  · rename_i kk k i hp hi
    rw [hp] at hx
    obtain ⟨⟨e, n⟩, he, T, l, hlk, h0, hlt, hk⟩ := h
    have hE := I.ent _ _ hlk
    obtain ⟨hz, xs, vals, hown, hrep⟩ := hE
    rcases hown.2 with ⟨_, hn⟩ | ⟨g, cap, cur, hr, _⟩
    · omega
    · have hx' : a.eval x = ρ kk := hx
      refine ⟨_, .pointer (some ⟨g, i.toNat * n, none⟩), hk, ⟨g, l.length, cap, hr, by simp⟩, fun w' => ?_⟩
      have := run_indexAt_sl (P := Γ.P) he g 0 l.length cap k i h0 hlt w'
      simp [execOp, ho, hx', hr, ev_raw I hi, this]
  · exact h.elim

theorem strOf_spec {P : Program} {t : TypeId} (h : strOf P t = true) : P.underlying t = some .string := by
  unfold strOf at h
  split at h
  · assumption
  · cases h

theorem ok_index (I : Iv Γ σ ρ a w) {o : Oper} {x ix : Operand} {t : Nat} (ho : o.op = .index t x ix) (h : stepP Γ.P σ o.op K) : PureOk Γ σ ρ a w o K := by
  rw [ho] at h
  simp only [stepP] at h
  split at h
  · rename_i s k i hp hi
    obtain ⟨ht, h0, b, hb, hk⟩ := h
    exact ⟨_, _, hk, Rep.raw _, fun w' => by simp [execOp, ho, ev_raw I hp, ev_raw I hi, Instr.index, asIntOf, run_underlying (strOf_spec ht), h0, hb]⟩
  · exact h.elim

theorem bound_run {P : Program} {k : IntKind} {i : Int} {y : Nat} {c : BoundsCode} (h0 : 0 ≤ i) (h1 : i ≤ y) (w : World) : (Instr.sliceBound (.int k i) y c).run P w = .ok i.toNat w := by
  simp [Instr.sliceBound, asIntOf, h0, h1]

theorem bounds_run (I : Iv Γ σ ρ a w) {b : Bool} {lo hi : Option Operand} {n cap : Nat} {l h : Int} (hl : (lo = none ∧ l = 0) ∨ ∃ o k, lo = some o ∧ σ.ev o = .sv (.raw (.int k l)))
    (hh : (hi = none ∧ h = n) ∨ ∃ o k, hi = some o ∧ σ.ev o = .sv (.raw (.int k h))) (h0 : 0 ≤ l) (h1 : l ≤ h) (h2 : h ≤ n) (hc : n ≤ cap) (w' : World) :
    (Instr.sliceBounds b n cap (lo.map a.eval) (hi.map a.eval) none).run Γ.P w' = .ok (l.toNat, h.toNat, cap) w' := by
  have hh0 : 0 ≤ h := by omega
  have hcap : h ≤ (cap : Int) := by omega
  have hlh : l ≤ (h.toNat : Int) := by omega
  rcases hh with ⟨rfl, rfl⟩ | ⟨o, k, rfl, hev⟩ <;> rcases hl with ⟨rfl, rfl⟩ | ⟨o', k', rfl, hev'⟩
  · simp [Instr.sliceBounds]
  · simp [Instr.sliceBounds, ev_raw I hev', bound_run h0 h1]
  · simp [Instr.sliceBounds, ev_raw I hev, bound_run hh0 hcap]
  · simp [Instr.sliceBounds, ev_raw I hev, ev_raw I hev', bound_run hh0 hcap, bound_run h0 hlh]

theorem ok_slice (I : Iv Γ σ ρ a w) {o : Oper} {x : Operand} {t : Nat} {lo hi : Option Operand} (ho : o.op = .slice t x lo hi none) (h : stepP Γ.P σ o.op K) : PureOk Γ σ ρ a w o K := by
  rw [ho] at h
  simp only [stepP] at h
  split at h
  · rename_i s hp
    obtain ⟨ht, l, hh, hl, hhi, h0, h1, h2, hk⟩ := h
    refine ⟨_, _, hk, Rep.raw _, fun w' => ?_⟩
    have hb := bounds_run (b := false) I hl hhi h0 h1 h2 (Nat.le_refl _) w'
    simp [execOp, ho, ev_raw I hp, Instr.sliceAt, Instr.slice, run_underlying (strOf_spec ht), hb]
  · rename_i sz r hp
    obtain ⟨⟨e, n⟩, he, rfl, l, hh, hl, hhi, h0, h1, h2, hk⟩ := h
    obtain ⟨hu, hs⟩ := elOf_spec he
    have hx := I.ev x
    rw [hp] at hx
    generalize hv : a.eval x = v at hx
    cases hx with
    | nil _ ad c =>
      have e1 : l = 0 := by simp at h2; omega
      have e2 : hh = 0 := by simp at h2; omega
      subst e1 e2
      have hb := bounds_run (b := true) (n := 0) (cap := c) I hl hhi (by omega) (by omega) (by simp) (Nat.zero_le _) w
      refine ⟨_, .slice (if c = 0 then ad else ad.map (·.add (0 * n))) 0 (c - 0), hk, ?_, fun w' => ?_⟩
      · simp; exact Rep.nil _ _ _
      · have hb := bounds_run (b := true) (n := 0) (cap := c) I hl hhi (by omega) (by omega) (by simp) (Nat.zero_le _) w'
        simp [execOp, ho, hv, Instr.sliceAt, Instr.slice, run_underlying hu, hb, run_sizeOf hs]
    | sl _ _ b off c vals hb hpos hc hz q1 q2 q3 =>
      have run : ∀ w', (execOp a.eval o).run Γ.P w' = .ok (.value (.slice (if c = l.toNat then some ⟨b, off, none⟩ else some ⟨b, off + l.toNat * n, none⟩) (hh.toNat - l.toNat) (c - l.toNat))) w' := fun w' => by
        have hb := bounds_run (b := true) (n := r.length) (cap := c) I hl hhi h0 h1 h2 hc w'
        have hadd : ∀ m, (⟨b, off, none⟩ : Addr).add m = ⟨b, off + m, none⟩ := fun m => by unfold Addr.add; split <;> simp_all
        simp [execOp, ho, hv, Instr.sliceAt, Instr.slice, run_underlying hu, hb, run_sizeOf hs, hadd]
      refine ⟨_, _, hk, ?_, run⟩
      have hlen : ((r.drop l.toNat).take (hh - l).toNat).length = hh.toNat - l.toNat := by simp; omega
      by_cases hz0 : hh.toNat - l.toNat = 0
      · have : (r.drop l.toNat).take (hh - l).toNat = [] := List.eq_nil_of_length_eq_zero (by omega)
        rw [this, hz0]
        exact Rep.nil _ _ _
      · rw [← hlen, if_neg (by omega)]
        refine Rep.sl n _ b (off + l.toNat * n) _ (fun i => vals (l.toNat + i)) hb (by omega) (by omega) hz ?_ ?_ ?_
        · intro i s hi
          rw [List.getElem?_take] at hi
          split at hi
          · rw [List.getElem?_drop] at hi; exact q1 _ s hi
          · cases hi
        · intro i hi; exact q2 _ (by omega)
        · intro i hi j u hu'
          have := q3 (l.toNat + i) (by omega) j u hu'
          rw [show off + l.toNat * n + i * n + j = off + (l.toNat + i) * n + j by rw [Nat.add_mul]; omega]
          exact this
  · exact h.elim

theorem ok_convert (I : Iv Γ σ ρ a w) {o : Oper} {x : Operand} {s d : Nat} (ho : o.op = .convert s d x) (h : stepP Γ.P σ o.op K) : PureOk Γ σ ρ a w o K := by
  rw [ho] at h
  simp only [stepP] at h
  split at h
  · rename_i k n hp
    obtain ⟨hs, k', hk', hk⟩ := h
    refine ⟨_, _, hk, Rep.raw _, fun w' => ?_⟩
    have hd : Γ.P.underlying d = some (.int k') := by
      unfold inkOf at hk'
      split at hk'
      · rename_i q hq; cases hk'; exact hq
      · cases hk'
    have hs' : ∃ ds, Γ.P.underlying s = some ds := by
      unfold aggOf at hs
      cases hu : Γ.P.underlying s with
      | none => simp [hu] at hs
      | some ds => exact ⟨ds, rfl⟩
    obtain ⟨ds, hds⟩ := hs'
    simp [execOp, ho, ev_raw I hp, convert, run_underlying hds, run_underlying hd, Conv.intToInt]
  · rename_i b hp
    obtain ⟨hs, hd, hk⟩ := h
    exact ⟨_, _, hk, Rep.raw _, fun w' => by simp [execOp, ho, ev_raw I hp, convert, run_underlying (strOf_spec hs), run_underlying (strOf_spec hd)]⟩
  · exact h.elim

theorem elOf_some {P : Program} {t : TypeId} (h : (elOf P t).isSome = true) : ∃ e, P.underlying t = some (.slice e) := by
  unfold elOf at h
  split at h
  · rename_i e he; exact ⟨e, he⟩
  · cases h

theorem arr1 {α : Type} {xs : Array α} {x : α} (h : xs.toList = [x]) : xs = #[x] := by cases xs; simp_all
theorem arr2 {α : Type} {xs : Array α} {x y : α} (h : xs.toList = [x, y]) : xs = #[x, y] := by cases xs; simp_all

theorem ok_len (I : Iv Γ σ ρ a w) {o : Oper} {args : Array Operand} {ts : Array TypeId} (ho : o.op = .call { callee := .builtin .len, args := args, argTypes := ts }) (h : stepP Γ.P σ o.op K) : PureOk Γ σ ρ a w o K := by
  rw [ho] at h
  simp only [stepP] at h
  split at h
  · rename_i x t hx ht
    have e1 := arr1 hx
    have e2 := arr1 ht
    subst e1 e2
    have hX := I.ev x
    split at h
    · rename_i s hp
      exact ⟨_, _, h.2, Rep.raw _, fun w' => by simp [execOp, ho, resolve, invoke, builtin, ev_raw I hp, Builtin.len_, run_underlying (strOf_spec h.1), goInt]⟩
    · rename_i sz l hp
      obtain ⟨e, he⟩ := elOf_some h.1
      rw [hp] at hX
      generalize hv : a.eval x = v at hX
      refine ⟨_, _, h.2, Rep.raw _, fun w' => ?_⟩
      cases hX with
      | nil => simp [execOp, ho, resolve, invoke, builtin, hv, Builtin.len_, run_underlying he, goInt]
      | sl => simp [execOp, ho, resolve, invoke, builtin, hv, Builtin.len_, run_underlying he, goInt]
    · rename_i q n c hp
      obtain ⟨e, he⟩ := elOf_some h.1
      exact ⟨_, _, h.2, Rep.raw _, fun w' => by simp [execOp, ho, resolve, invoke, builtin, ev_raw I hp, Builtin.len_, run_underlying he, goInt]⟩
    · rename_i k hp
      obtain ⟨h1, sz, T, l, hlk, hk⟩ := h
      obtain ⟨e, he⟩ := elOf_some h1
      rw [hp] at hX
      have hX' : a.eval x = ρ k := hX
      obtain ⟨hz, xs, vals, hown, hrep⟩ := I.ent _ _ hlk
      refine ⟨_, _, hk, Rep.raw _, fun w' => ?_⟩
      rcases hown.2 with ⟨hr, hn⟩ | ⟨g, cap, cur, hr, _⟩
      · simp [execOp, ho, resolve, invoke, builtin, hX', hr, hn, Builtin.len_, run_underlying he, goInt]
      · simp [execOp, ho, resolve, invoke, builtin, hX', hr, Builtin.len_, run_underlying he, goInt]
    · exact h.elim
  · exact h.elim

theorem ok_min (I : Iv Γ σ ρ a w) {o : Oper} {args : Array Operand} {ts : Array TypeId} (ho : o.op = .call { callee := .builtin .min, args := args, argTypes := ts }) (h : stepP Γ.P σ o.op K) : PureOk Γ σ ρ a w o K := by
  rw [ho] at h
  simp only [stepP] at h
  split at h
  · rename_i x y hx
    have e1 := arr2 hx
    subst e1
    split at h
    · rename_i k p k' q hp hq
      exact ⟨_, _, h, Rep.raw _, fun w' => by simp [execOp, ho, resolve, invoke, builtin, ev_raw I hp, ev_raw I hq, Builtin.min_, Builtin.min2]⟩
    · exact h.elim
  · exact h.elim

theorem ok_max (I : Iv Γ σ ρ a w) {o : Oper} {args : Array Operand} {ts : Array TypeId} (ho : o.op = .call { callee := .builtin .max, args := args, argTypes := ts }) (h : stepP Γ.P σ o.op K) : PureOk Γ σ ρ a w o K := by
  rw [ho] at h
  simp only [stepP] at h
  split at h
  · rename_i x y hx
    have e1 := arr2 hx
    subst e1
    split at h
    · rename_i k p k' q hp hq
      exact ⟨_, _, h, Rep.raw _, fun w' => by simp [execOp, ho, resolve, invoke, builtin, ev_raw I hp, ev_raw I hq, Builtin.max_, Builtin.max2]⟩
    · exact h.elim
  · exact h.elim

theorem stepP_sound (I : Iv Γ σ ρ a w) {o : Oper} (h : stepP Γ.P σ o.op K) : PureOk Γ σ ρ a w o K := by
  cases ho : o.op with
  | move x => exact ok_move I x (.inl ho) (by rw [ho] at h; exact h)
  | assign x => exact ok_move I x (.inr ho) (by rw [ho] at h; exact h)
  | binOp b t x y t' => exact ok_binOp I ho h
  | unOp b t x => exact ok_unOp I ho h
  | pick c x y => exact ok_pick I ho h
  | nilCheck x => exact ok_nilCheck I ho h
  | extract x i => exact ok_extract I ho h
  | fieldAddr s x f => exact ok_fieldAddr I ho h
  | field s x f => exact ok_field I ho h
  | indexAddr t x ix => exact ok_indexAddr I ho h
  | index t x ix => exact ok_index I ho h
  | slice t x lo hi mx =>
    cases mx with
    | none => exact ok_slice I ho h
    | some m => rw [ho] at h; simp only [stepP] at h
  | convert s d x => exact ok_convert I ho h
  | call c =>
    obtain ⟨cal, args, ts⟩ := c
    cases cal with
    | builtin b =>
      cases b with
      | len => exact ok_len I ho h
      | min => exact ok_min I ho h
      | max => exact ok_max I ho h
      | _ => rw [ho] at h; simp only [stepP] at h
    | _ => rw [ho] at h; simp only [stepP] at h
  | _ => rw [ho] at h; simp only [stepP] at h
end
end Go.Abs

/- What operations on memory do to plain values: a load, a box, a row. No condition. -/
namespace Go.Abs
open Go Go.RowKit Go.Eager

def LV.mentions (k : Nat) : LV → Bool
  | .ptr k' _ => k' == k
  | .own k' => k' == k
  | .eptr k' _ _ _ => k' == k
  | .osub k' _ _ => k' == k
  | .cfn _ ks => ks.contains k
  | _ => false
def Ent.mentions (k : Nat) : Ent → Bool
  | .box cells => cells.any (LV.mentions k)
  | .rowl _ cells => cells.any (LV.mentions k)
  | _ => false
def St.free (σ : St) (k : Nat) : Bool := σ.t.all (fun p => !p.2.mentions k) && σ.h.all (fun p => !p.2.mentions k) && (σ.h.lookup k).isNone
def upd (ρ : Nat → Value) (k : Nat) (v : Value) : Nat → Value := fun k' => if k' = k then v else ρ k'
theorem upd_self (ρ : Nat → Value) (k : Nat) : upd ρ k (ρ k) = ρ := by funext k'; unfold upd; split <;> simp_all
theorem upd_at (ρ : Nat → Value) (k : Nat) (v : Value) : upd ρ k v k = v := by simp [upd]
theorem upd_ne (ρ : Nat → Value) {k k' : Nat} (v : Value) (h : k' ≠ k) : upd ρ k v k' = ρ k' := by simp [upd, h]

theorem LRep.upd {w : World} {O : Nat → Prop} {ρ : Nat → Value} {lv : LV} {v v' : Value} {k : Nat} (h : LRep w O ρ lv v) (hm : lv.mentions k = false) : LRep w O (upd ρ k v') lv v := by
  cases lv with
  | sv s => exact h
  | av Z s => exact h
  | dead => exact h
  | ptr k' j => simp only [LV.mentions, beq_eq_false_iff_ne, ne_eq] at hm; have e := upd_ne ρ v' hm; simpa only [LRep, e] using h
  | own k' => simp only [LV.mentions, beq_eq_false_iff_ne, ne_eq] at hm; have e := upd_ne ρ v' hm; simpa only [LRep, e] using h
  | eptr k' n i j => simp only [LV.mentions, beq_eq_false_iff_ne, ne_eq] at hm; have e := upd_ne ρ v' hm; simpa only [LRep, e] using h
  | osub k' n i => simp only [LV.mentions, beq_eq_false_iff_ne, ne_eq] at hm; have e := upd_ne ρ v' hm; simpa only [LRep, e] using h
  | cfn f ks =>
    have e : ks.map (Go.Abs.upd ρ k v') = ks.map ρ := List.map_congr_left fun x hx => upd_ne ρ v' fun hh => by
      subst hh
      simp only [LV.mentions] at hm
      have : ks.contains x = true := by simpa using hx
      rw [hm] at this
      cases this
    show v = .func (.func f) #[] (ks.map (Go.Abs.upd ρ k v')).toArray
    rw [e]; exact h

theorem ERep.step {w w' : World} {O O' : Nat → Prop} {ρ ρ' : Nat → Value} {k : Nat} {e : Ent} (h : ERep w O ρ k e) (kp : Kp w O w' O') (hb : ∀ b, blk (ρ k) = some b → w'.heap[b]? = w.heap[b]?) (hρ : ρ' k = ρ k)
    (hl : ∀ cells, (e = .box cells ∨ ∃ T, e = .rowl T cells) → ∀ (j : Nat) (lv : LV) (v : Value), cells[j]? = some lv → LRep w' O' ρ lv v → LRep w' O' ρ' lv v) : ERep w' O' ρ' k e := by
  cases e with
  | box cells =>
    obtain ⟨b, T, cur, h1, h2, h3, h4⟩ := h
    refine ⟨b, T, cur, by rw [hρ]; exact h1, ?_, h3, fun j lv u hj hu => ⟨hl cells (.inl rfl) j lv u hj ((h4 j lv u hj hu).1.kp kp), (h4 j lv u hj hu).2⟩⟩
    rw [hb b (by rw [h1]; rfl)]; exact h2
  | row sz T l =>
    obtain ⟨hz, xs, vals, h1, h2⟩ := h
    refine ⟨hz, xs, vals, ?_, fun i s hi => ⟨(h2 i s hi).1.kp kp, (h2 i s hi).2⟩⟩
    rw [hρ]
    refine ⟨h1.1, ?_⟩
    rcases h1.2 with hn | ⟨g, cap, cur, hv, hb', hg, rest⟩
    · exact .inl hn
    · exact .inr ⟨g, cap, cur, hv, hb', by rw [hb g (by rw [hv]; rfl)]; exact hg, rest⟩
  | map kk es =>
    obtain ⟨r, en, cl, h1, h2, h3⟩ := h
    exact ⟨r, en, cl, by rw [hρ]; exact h1, by rw [hb r (by rw [h1]; rfl)]; exact h2, h3⟩
  | rowl T cells =>
    obtain ⟨xs, h1, h2⟩ := h
    refine ⟨xs, ?_, fun j lv u hj hu => ⟨hl cells (.inr ⟨T, rfl⟩) j lv u hj ((h2 j lv u hj hu).1.kp kp), (h2 j lv u hj hu).2⟩⟩
    rw [hρ]
    refine ⟨h1.1, ?_⟩
    rcases h1.2 with hn | ⟨g, cap, cur, hv, hb', hg, rest⟩
    · exact .inl hn
    · exact .inr ⟨g, cap, cur, hv, hb', by rw [hb g (by rw [hv]; rfl)]; exact hg, rest⟩

theorem Iv.heap {Γ : Ctx} {σ : St} {ρ : Nat → Value} {a : Act} {w w' : World} (I : Iv Γ σ ρ a w) {t' : List (Nat × LV)} {k : Nat} {e : Ent} {v' : Value}
    (ht : ∀ t lv, t'.lookup t = some lv → σ.t.lookup t = some lv ∨ lv = .dead)
    (hr : v' = ρ k ∨ ((∀ t lv, t'.lookup t = some lv → lv.mentions k = false) ∧ ∀ k1 e1, k1 ≠ k → σ.h.lookup k1 = some e1 → e1.mentions k = false))
    (ho : w'.os = w.os ∧ w'.tape = w.tape ∧ w'.output = w.output ∧ w.heap.size ≤ w'.heap.size)
    (hw : ∀ b, b < w.heap.size → (∀ e0, σ.h.lookup k = some e0 → blk (ρ k) ≠ some b) → w'.heap[b]? = w.heap[b]?)
    (hb : ∀ b, blk v' = some b → b < w'.heap.size ∧ (w.heap.size ≤ b ∨ ∃ e0, σ.h.lookup k = some e0 ∧ blk (ρ k) = some b))
    (hi : ∀ v, Γ.inn k = some v → v' = v)
    (he : ERep w' (Own Γ (ins k e σ.h) (upd ρ k v')) (upd ρ k v') k e) : Iv Γ ⟨t', ins k e σ.h⟩ (upd ρ k v') a w' := by
  have kp : Kp w (Own Γ σ.h ρ) w' (Own Γ (ins k e σ.h) (upd ρ k v')) := by
    intro b hlt hno
    refine ⟨hw b hlt fun e0 h0 hbk => hno (.inr ⟨k, e0, h0, hbk⟩), ?_⟩
    rintro (hO | ⟨k1, e1, hk1, hb1⟩)
    · exact hno (.inl hO)
    · rw [lookup_ins] at hk1
      by_cases hkk : k1 = k
      · subst hkk
        rw [upd_at] at hb1
        rcases (hb b hb1).2 with h | ⟨e0, h0, hbk⟩
        · omega
        · exact hno (.inr ⟨k1, e0, h0, hbk⟩)
      · rw [if_neg hkk] at hk1
        rw [upd_ne _ _ hkk] at hb1
        exact hno (.inr ⟨k1, e1, hk1, hb1⟩)
  refine ⟨I.dfr, I.size, ?_, ?_, ?_, ?_, ?_, I.out, ?_⟩
  · refine ⟨ho.1.trans I.frm.os, ho.2.1.trans I.frm.tape, ho.2.2.1.trans I.frm.output, Nat.le_trans I.frm.size ho.2.2.2, fun b hlt hm => ?_⟩
    rw [hw b (Nat.lt_of_lt_of_le hlt I.frm.size) fun e0 h0 hbk => ?_]
    · exact I.frm.block b hlt hm
    · rcases (I.new k e0 b h0 hbk).1 with h | h
      · omega
      · exact hm h
  · intro t lv htl
    rcases ht t lv htl with h | rfl
    · have h1 := (I.tmp t lv h).kp kp
      rcases hr with rfl | ⟨hr, _⟩
      · rw [upd_self] at h1 ⊢; exact h1
      · exact h1.upd (hr t lv htl)
    · exact trivial
  · intro k1 e1 hk1
    rw [lookup_ins] at hk1
    by_cases hkk : k1 = k
    · subst hkk
      simp only [if_true, Option.some.injEq] at hk1
      subst hk1
      exact he
    · rw [if_neg hkk] at hk1
      refine (I.ent k1 e1 hk1).step kp (fun b hbk => hw b (I.new k1 e1 b hk1 hbk).2 fun e0 h0 hb0 => hkk (I.sep k1 k e1 e0 b hk1 h0 hbk hb0)) (upd_ne _ _ hkk) ?_
      intro cells hc j lv v hj hl
      rcases hr with rfl | ⟨_, hr⟩
      · rw [upd_self] at hl ⊢; exact hl
      · refine hl.upd ?_
        have := hr k1 e1 hkk hk1
        rcases hc with rfl | ⟨T, rfl⟩ <;>
        · simp only [Ent.mentions, List.any_eq_false] at this
          have h2 := this lv (List.mem_of_getElem? hj)
          simpa using h2
  · intro k1 e1 b hk1 hbk
    rw [lookup_ins] at hk1
    by_cases hkk : k1 = k
    · subst hkk
      rw [upd_at] at hbk
      refine ⟨?_, (hb b hbk).1⟩
      rcases (hb b hbk).2 with h | ⟨e0, h0, hb0⟩
      · exact .inl (Nat.le_trans I.frm.size h)
      · exact (I.new k1 e0 b h0 hb0).1
    · rw [if_neg hkk] at hk1
      rw [upd_ne _ _ hkk] at hbk
      exact ⟨(I.new k1 e1 b hk1 hbk).1, Nat.lt_of_lt_of_le (I.new k1 e1 b hk1 hbk).2 ho.2.2.2⟩
  · intro k1 k2 e1 e2 b h1 h2 hb1 hb2
    rw [lookup_ins] at h1 h2
    by_cases hk1 : k1 = k <;> by_cases hk2 : k2 = k
    · rw [hk1, hk2]
    · exfalso
      subst hk1
      rw [if_neg hk2] at h2
      rw [upd_at] at hb1
      rw [upd_ne _ _ hk2] at hb2
      rcases (hb b hb1).2 with h | ⟨e0, h0, hb0⟩
      · have := (I.new k2 e2 b h2 hb2).2; omega
      · exact hk2 (I.sep k2 k1 e2 e0 b h2 h0 hb2 hb0)
    · exfalso
      subst hk2
      rw [if_neg hk1] at h1
      rw [upd_at] at hb2
      rw [upd_ne _ _ hk1] at hb1
      rcases (hb b hb2).2 with h | ⟨e0, h0, hb0⟩
      · have := (I.new k1 e1 b h1 hb1).2; omega
      · exact hk1 (I.sep k1 k2 e1 e0 b h1 h0 hb1 hb0)
    · rw [if_neg hk1] at h1
      rw [if_neg hk2] at h2
      rw [upd_ne _ _ hk1] at hb1
      rw [upd_ne _ _ hk2] at hb2
      exact I.sep k1 k2 e1 e2 b h1 h2 hb1 hb2
  · intro k1 v hv
    by_cases hkk : k1 = k
    · subst hkk; rw [upd_at]; exact hi v hv
    · rw [upd_ne _ _ hkk]; exact I.inn k1 v hv

theorem mem_of_lookup {α : Type} {k : Nat} {e : α} : ∀ {l : List (Nat × α)}, l.lookup k = some e → (k, e) ∈ l
  | [], h => by simp at h
  | (k', e') :: l, h => by
    rw [List.lookup_cons] at h
    by_cases hk : k = k'
    · subst hk; simp at h; subst h; simp
    · have : (k == k') = false := by simpa using hk
      simp only [this] at h
      exact List.mem_cons_of_mem _ (mem_of_lookup h)

theorem free_spec {σ : St} {k : Nat} (h : σ.free k = true) : (∀ t lv, σ.t.lookup t = some lv → lv.mentions k = false) ∧ (∀ k1 e1, σ.h.lookup k1 = some e1 → e1.mentions k = false) ∧ σ.h.lookup k = none := by
  simp only [St.free, Bool.and_eq_true, List.all_eq_true, Bool.not_eq_true', Option.isNone_iff_eq_none] at h
  exact ⟨fun t lv ht => h.1.1 _ (mem_of_lookup ht), fun k1 e1 hk => h.1.2 _ (mem_of_lookup hk), h.2⟩

theorem Iv.fresh {Γ : Ctx} {σ : St} {ρ : Nat → Value} {a : Act} {w : World} (I : Iv Γ σ ρ a w) {k : Nat} {e : Ent} {v' : Value} {o : Obj} (hf : σ.free k = true) (hi : Γ.inn k = none) (hv : blk v' = some w.heap.size)
    (he : ERep (w.alloc o) (Own Γ (ins k e σ.h) (upd ρ k v')) (upd ρ k v') k e) : Iv Γ ⟨σ.t, ins k e σ.h⟩ (upd ρ k v') a (w.alloc o) := by
  obtain ⟨h1, h2, h3⟩ := free_spec hf
  refine I.heap (fun t lv h => .inl h) (.inr ⟨h1, fun k1 e1 _ => h2 k1 e1⟩) ⟨rfl, rfl, rfl, by simp⟩ (fun b hb _ => Below.heap_alloc w o b hb) ?_ (by rw [hi]; intro v h; cases h) he
  intro b hb
  rw [hv] at hb
  cases hb
  exact ⟨by simp, .inl (Nat.le_refl _)⟩

theorem alloc_ext (w : World) (o : Obj) : Ext w (w.alloc o) := (Below.refl _ w).alloc (Nat.le_refl _) o

theorem kp_fresh {Γ : Ctx} {σ : St} {ρ : Nat → Value} {w : World} {k : Nat} {e : Ent} {v' : Value} (o : Obj) (hv : blk v' = some w.heap.size) : Kp w (Own Γ σ.h ρ) (w.alloc o) (Own Γ (ins k e σ.h) (upd ρ k v')) := by
  intro b hlt hno
  refine ⟨Below.heap_alloc w o b hlt, ?_⟩
  rintro (hO | ⟨k1, e1, hk1, hb1⟩)
  · exact hno (.inl hO)
  · rw [lookup_ins] at hk1
    by_cases hkk : k1 = k
    · subst hkk; rw [upd_at, hv] at hb1; cases hb1; omega
    · rw [if_neg hkk] at hk1
      rw [upd_ne _ _ hkk] at hb1
      exact hno (.inr ⟨k1, e1, hk1, hb1⟩)
end Go.Abs

/- A load, a store, a new box, a new row: what they do to plain values. No condition. -/
namespace Go.Abs
open Go Go.RowKit Go.Eager

def LV.one : LV → Bool
  | .sv s => s.one
  | .dead => false
  | _ => true
def svs : List LV → Option (List SV)
  | [] => some []
  | .sv s :: l => (svs l).map (s :: ·)
  | _ :: _ => none

theorem svs_spec : ∀ {c : List LV} {l : List SV}, svs c = some l → c = l.map LV.sv
  | [], l, h => by simp [svs] at h; subst h; rfl
  | lv :: c, l, h => by
    cases lv <;> simp [svs] at h
    obtain ⟨l', h1, rfl⟩ := h
    rw [svs_spec h1]; rfl

def stepR (P : Program) (σ : St) (op : Op) (K : LV → Prop) : Prop :=
  match op with
  | .load t x =>
    match σ.ev x with
    | .sv (.ptr p) => ∃ g, aggOf P t = some g ∧ (g = false → p.one = true ∧ K (.sv p)) ∧ (g = true → ∃ l, p = .agg l ∧ szOf P t = some l.length ∧ K (.sv p))
    | .ptr k j => ∃ cells, σ.h.lookup k = some (.box cells) ∧ ∃ g, aggOf P t = some g ∧ (g = false → ∃ lv, cells[j]? = some lv ∧ K lv) ∧
        (g = true → ∃ n, szOf P t = some n ∧ ∃ l, svs ((cells.drop j).take n) = some l ∧ l.length = n ∧ K (.sv (.agg l)))
    | .eptr k sz i j => ∃ T l s, σ.h.lookup k = some (.row sz T l) ∧ l[i]? = some s ∧ ∃ g, aggOf P t = some g ∧
        (g = false → (j = 0 ∧ s.one = true ∧ K (.sv s)) ∨ ∃ c p, s = .agg c ∧ c[j]? = some p ∧ K (.sv p)) ∧ (g = true → j = 0 ∧ ∃ c, s = .agg c ∧ szOf P t = some c.length ∧ K (.sv s))
    | _ => False
  | _ => False

def ReadOk (Γ : Ctx) (σ : St) (ρ : Nat → Value) (a : Act) (w : World) (o : Oper) (K : LV → Prop) : Prop :=
  ∃ lv v, K lv ∧ LRep w (Own Γ σ.h ρ) ρ lv v ∧ ∀ w', Ext w w' → (execOp a.eval o).run Γ.P w' = .ok (.value v) w'

theorem addr_add (b o n : Nat) : (⟨b, o, none⟩ : Addr).add n = ⟨b, o + n, none⟩ := by unfold Addr.add; split <;> simp_all

theorem run_loadAt_one {P : Program} {t : TypeId} {w : World} {b o : Nat} {u : Value} (h : aggOf P t = some false) (hc : w.cell? ⟨b, o, none⟩ = some u) : (Instr.loadAt t (.pointer (some ⟨b, o, none⟩))).run P w = .ok u w := by
  simp [Instr.loadAt, Instr.sureAddr, loadVar, run_isAgg h, hc]
theorem run_loadAt_agg {P : Program} {t : TypeId} {w : World} {b o : Nat} {vs : Array Value} (h : aggOf P t = some true) (hs : szOf P t = some vs.size) (hc : ∀ j u, vs[j]? = some u → w.cell? ⟨b, o + j, none⟩ = some u) :
    (Instr.loadAt t (.pointer (some ⟨b, o, none⟩))).run P w = .ok (.agg vs) w := by
  have hl := run_loadCells_list (P := P) w ⟨b, o, none⟩ vs.toList (fun j v hv => by rw [addr_add]; exact hc j v (by simpa using hv))
  simp only [Array.length_toList, Array.toArray_toList] at hl
  simp [Instr.loadAt, Instr.sureAddr, loadVar, run_isAgg h, run_sizeOf hs, hl]

theorem Ext.cell {w w' : World} (h : Ext w w') {b o : Nat} {u : Value} (hc : w.cell? ⟨b, o, none⟩ = some u) : w'.cell? ⟨b, o, none⟩ = some u :=
  (Below.cell h (World.block_lt_of_cell? w _ hc)).trans hc

section
variable {Γ : Ctx} {σ : St} {ρ : Nat → Value} {a : Act} {w : World} {K : LV → Prop}

theorem row_cell {O : Nat → Prop} {k sz T : Nat} {l : List SV} (hE : ERep w O ρ k (.row sz T l)) {b n c : Nat} (hr : ρ k = .slice (some ⟨b, 0, none⟩) n c) {i : Nat} {s : SV} (hi : l[i]? = some s) :
    ∃ v, Rep w O s v ∧ v.cells.size = sz ∧ ∀ (j : Nat) (u : Value), v.cells[j]? = some u → w.cell? ⟨b, i * sz + j, none⟩ = some u := by
  obtain ⟨hz, xs, vals, hown, hrep⟩ := hE
  obtain ⟨h1, h2, h3⟩ := hrep i s hi
  refine ⟨vals i, h1, h2, fun j u hu => ?_⟩
  rw [hr] at hown
  have h4 := hown.cells (g := b) rfl (i * sz + j) u (h3 j u hu)
  rwa [addr_add, Nat.zero_add] at h4

theorem stepR_sound (I : Iv Γ σ ρ a w) {o : Oper} (h : stepR Γ.P σ o.op K) : ReadOk Γ σ ρ a w o K := by
  cases ho : o.op with
  | load t x =>
    rw [ho] at h
    simp only [stepR] at h
    have hx := I.ev x
    split at h
    · rename_i p hp
      rw [hp] at hx
      obtain ⟨g, hg, h0, h1⟩ := h
      generalize hv : a.eval x = v at hx
      cases hx with
      | ptr _ b off u hb hr hz h3 =>
        cases g with
        | false =>
          obtain ⟨hone, hk⟩ := h0 rfl
          refine ⟨_, u, hk, hr, fun w' hx => ?_⟩
          have hc : w.cell? ⟨b, off, none⟩ = some u := by
            have := h3 0 u (by rw [oneCell_cells (hr.oneCell hone)]; rfl)
            simpa using this
          simp [execOp, ho, hv, run_loadAt_one hg (Ext.cell hx hc)]
        | true =>
          obtain ⟨l, rfl, hs, hk⟩ := h1 rfl
          obtain ⟨vs, rfl, hsz⟩ := agg_inv hr
          refine ⟨_, _, hk, hr, fun w' hx => ?_⟩
          simp [execOp, ho, hv, run_loadAt_agg (vs := vs) hg (by rw [hs, hsz]) (fun j u hu => Ext.cell hx (h3 j u hu))]
    · rename_i k j hp
      rw [hp] at hx
      obtain ⟨cells, hlk, g, hg, h0, h1⟩ := h
      obtain ⟨b, hr, hv⟩ := hx
      obtain ⟨b', T, cur, hr', hcur, hsz, hcells⟩ := I.ent _ _ hlk
      rw [hr] at hr'
      simp only [Value.pointer.injEq, Option.some.injEq, Addr.mk.injEq, and_true] at hr'
      subst hr'
      cases g with
      | false =>
        obtain ⟨lv, hlv, hk⟩ := h0 rfl
        have hlt : j < cur.size := by rw [hsz]; exact (List.getElem?_eq_some_iff.1 hlv).1
        have hu : cur[j]? = some cur[j] := Array.getElem?_eq_getElem hlt
        refine ⟨lv, _, hk, (hcells j lv _ hlv hu).1, fun w' hx => ?_⟩
        have hc : w.cell? ⟨b, j, none⟩ = some cur[j] := by rw [cell_of_row w b j cur T (0, 0) hcur]; exact hu
        simp [execOp, ho, hv, run_loadAt_one hg (Ext.cell hx hc)]
      | true =>
        obtain ⟨n, hs, l, hl, hn, hk⟩ := h1 rfl
        have hl' := svs_spec hl
        have hlen : ((cells.drop j).take n).length = n := by rw [hl']; simpa using hn
        simp only [List.length_take, List.length_drop] at hlen
        have key : ∀ i s, l[i]? = some s → i < n ∧ cells[j + i]? = some (.sv s) := by
          intro i s hi
          have hin : i < n := by rw [← hn]; exact (List.getElem?_eq_some_iff.1 hi).1
          refine ⟨hin, ?_⟩
          have : ((cells.drop j).take n)[i]? = some (LV.sv s) := by rw [hl', List.getElem?_map, hi]; rfl
          rwa [List.getElem?_take, if_pos hin, List.getElem?_drop] at this
        refine ⟨_, .agg (cur.extract j (j + n)), hk, Rep.agg _ _ (by simp; omega) (fun i u hu => ?_) (fun i s u hi hu => ?_), fun w' hx => ?_⟩
        · rw [Array.getElem?_extract] at hu
          split at hu
          · rename_i hh
            have hlt : j + i < cells.length := by omega
            exact (hcells (j + i) _ u (List.getElem?_eq_getElem hlt) hu).2
          · cases hu
        · obtain ⟨hin, hc⟩ := key i s hi
          rw [Array.getElem?_extract] at hu
          split at hu
          · exact (hcells (j + i) _ u hc hu).1
          · cases hu
        · have hsz' : szOf Γ.P t = some (cur.extract j (j + n)).size := by rw [hs]; simp; omega
          simp [execOp, ho, hv, run_loadAt_agg hg hsz' (fun i u hu => Ext.cell hx (by
            rw [Array.getElem?_extract] at hu
            split at hu
            · rw [cell_of_row w b (j + i) cur T (0, 0) hcur]; exact hu
            · cases hu))]
    · rename_i k sz i j hp
      rw [hp] at hx
      obtain ⟨T, l, s, hlk, hi, g, hg, h0, h1⟩ := h
      obtain ⟨b, n, c, hr, hv⟩ := hx
      obtain ⟨v, hrep, hvs, hcell⟩ := row_cell (I.ent _ _ hlk) hr hi
      cases g with
      | false =>
        rcases h0 rfl with ⟨rfl, hone, hk⟩ | ⟨cs, p, rfl, hp, hk⟩
        · refine ⟨_, v, hk, hrep, fun w' hx => ?_⟩
          have hc := hcell 0 v (by rw [oneCell_cells (hrep.oneCell hone)]; rfl)
          simp only [Nat.add_zero] at hc
          simp [execOp, ho, hv, run_loadAt_one hg (Ext.cell hx hc)]
        · obtain ⟨vs, rfl, hsz⟩ := agg_inv hrep
          obtain ⟨u, hu, hru, hone⟩ := agg_cell hrep hp
          exact ⟨_, u, hk, hru, fun w' hx => by simp [execOp, ho, hv, run_loadAt_one hg (Ext.cell hx (hcell j u hu))]⟩
      | true =>
        obtain ⟨rfl, cs, rfl, hs, hk⟩ := h1 rfl
        obtain ⟨vs, rfl, hsz⟩ := agg_inv hrep
        exact ⟨_, _, hk, hrep, fun w' hx => by simp [execOp, ho, hv, run_loadAt_agg (vs := vs) hg (by rw [hs, hsz]) (fun j u hu => Ext.cell hx (hcell j u hu))]⟩
    · exact h.elim
  | _ => rw [ho] at h; simp only [stepR] at h
end
end Go.Abs

/- A store, a new box, a new row, an append: what they do to plain values. No condition. -/
namespace Go.Abs
open Go Go.RowKit Go.Eager

def zeroOf (P : Program) (t : TypeId) : Option Value := (P.info? t).bind (·.zero)
def bytOf (P : Program) (t : TypeId) : Option Nat := (P.info? t).map (·.bytes)

def XOk (Γ : Ctx) (a : Act) (w : World) (o : Oper) (ext : Prop) (K : St → Prop) : Prop :=
  oN Γ.P o a w fun v w' => ∃ σ', K σ' ∧ Inv Γ σ' (a.put o.dst v) w' ∧ (ext → Ext w w')

def dstOk (Γ : Ctx) (o : Oper) : Bool := match o.dst with | some d => decide (d < Γ.n) | none => true
theorem dstOk_spec {Γ : Ctx} {o : Oper} (h : dstOk Γ o = true) : ∀ k, o.dst = some k → k < Γ.n := by
  intro k hk; simp [dstOk, hk] at h; exact h

def SV.cells : SV → List SV
  | .agg l => l
  | s => [s]

theorem sv_cells {w : World} {O : Nat → Prop} {s : SV} {v : Value} (h : Rep w O s v) (h1 : (∃ l, s = .agg l) ∨ s.one = true) :
    v.cells.size = s.cells.length ∧ ∀ (j : Nat) (q : SV) (u : Value), s.cells[j]? = some q → v.cells[j]? = some u → Rep w O q u ∧ u.oneCell' = true := by
  rcases h1 with ⟨l, rfl⟩ | h1
  · cases h with
    | agg _ vs hn h1 hr => exact ⟨hn, fun j q u hq hu => ⟨hr j q u hq hu, h1 j u hu⟩⟩
  · have hc : s.cells = [s] := by cases s <;> simp [SV.one] at h1 <;> rfl
    have hv := oneCell_cells (h.oneCell h1)
    rw [hc, hv]
    refine ⟨rfl, fun j q u hq hu => ?_⟩
    have : j = 0 := by cases j with | zero => rfl | succ j => simp at hq
    subst this
    simp at hq hu
    subst hq hu
    exact ⟨h, h.oneCell h1⟩

section
variable {Γ : Ctx} {σ : St} {ρ : Nat → Value} {a : Act} {w : World}

theorem box_rep {k T : Nat} {cells : List LV} {cs : Array Value} (hn : cs.size = cells.length)
    (hc : ∀ (j : Nat) (lv : LV) (u : Value), cells[j]? = some lv → cs[j]? = some u → (LRep w (Own Γ σ.h ρ) ρ lv u ∧ lv.mentions k = false) ∧ u.oneCell' = true) :
    ERep (w.alloc (.cells cs T)) (Own Γ (ins k (.box cells) σ.h) (upd ρ k (.pointer (some ⟨w.heap.size, 0, none⟩)))) (upd ρ k (.pointer (some ⟨w.heap.size, 0, none⟩))) k (.box cells) := by
  refine ⟨w.heap.size, T, cs, upd_at _ _ _, heap_alloc_new w _, hn, fun j lv u hj hu => ?_⟩
  obtain ⟨⟨h1, h2⟩, h3⟩ := hc j lv u hj hu
  exact ⟨(h1.kp (kp_fresh _ rfl)).upd h2, h3⟩

theorem ok_box_own (I : Iv Γ σ ρ a w) {o : Oper} {t d : Nat} {x : Operand} {s : SV} {K : St → Prop} (ho : o.op = .box t x) (hd : o.dst = some d) (hdn : d < Γ.n) (hx : σ.ev x = .sv s) (h1 : (∃ l, s = .agg l) ∨ s.one = true)
    (hf : σ.free d = true) (hi : Γ.inn d = none) (hk : K ⟨(d, .ptr d 0) :: σ.t, ins d (.box (s.cells.map .sv)) σ.h⟩) : XOk Γ a w o True K := by
  have hX := I.ev x
  rw [hx] at hX
  generalize hv : a.eval x = v at hX
  obtain ⟨h2, h3⟩ := sv_cells hX h1
  have run : (execOp a.eval o).run Γ.P w = .ok (.value (.pointer (some ⟨w.heap.size, 0, none⟩))) (w.alloc (.cells v.cells t)) := by
    simp [execOp, ho, hv, Instr.box, newVar, newRow]
  unfold XOk oN
  rw [run]
  refine ⟨_, hk, ⟨upd ρ d (.pointer (some ⟨w.heap.size, 0, none⟩)), ?_⟩, fun _ => alloc_ext w _⟩
  have I' := I.fresh (k := d) (e := .box (s.cells.map .sv)) (v' := .pointer (some ⟨w.heap.size, 0, none⟩)) (o := .cells v.cells t) hf hi rfl
    (box_rep (by simpa using h2) (fun j lv u hj hu => by
      rw [List.getElem?_map] at hj
      cases hq : s.cells[j]? with
      | none => simp [hq] at hj
      | some q => simp [hq] at hj; subst hj; exact ⟨⟨(h3 j q u hq hu).1, rfl⟩, (h3 j q u hq hu).2⟩))
  have := I'.put (d := some d) (lv := .ptr d 0) (v := .pointer (some ⟨w.heap.size, 0, none⟩)) (by simpa using hdn) ⟨w.heap.size, upd_at _ _ _, rfl⟩
  rw [hd]
  exact this

theorem ok_box (I : Iv Γ σ ρ a w) {o : Oper} {t : Nat} {x : Operand} {s : SV} {K : St → Prop} (ho : o.op = .box t x) (hdn : dstOk Γ o = true) (hx : σ.ev x = .sv s) (h1 : (∃ l, s = .agg l ∧ 0 < l.length) ∨ s.one = true)
    (hk : K (σ.put o.dst (.sv (.ptr s)))) : XOk Γ a w o True K := by
  have hX := I.ev x
  rw [hx] at hX
  generalize hv : a.eval x = v at hX
  have h1' : (∃ l, s = .agg l) ∨ s.one = true := h1.imp (fun ⟨l, h, _⟩ => ⟨l, h⟩) id
  obtain ⟨h2, h3⟩ := sv_cells hX h1'
  have run : (execOp a.eval o).run Γ.P w = .ok (.value (.pointer (some ⟨w.heap.size, 0, none⟩))) (w.alloc (.cells v.cells t)) := by
    simp [execOp, ho, hv, Instr.box, newVar, newRow]
  unfold XOk oN
  rw [run]
  have hx := alloc_ext w (.cells v.cells t)
  refine ⟨_, hk, ⟨ρ, (I.ext hx).put (dstOk_spec hdn) ?_⟩, fun _ => hx⟩
  refine Rep.ptr s w.heap.size 0 v (fun hno => Nat.lt_irrefl _ (blk_lt I hno)) (Rep.kp hX (ekp hx _)) ?_ ?_
  · rw [h2]
    rcases h1 with ⟨l, rfl, hl⟩ | h1
    · exact hl
    · cases s <;> simp [SV.one] at h1 <;> simp [SV.cells]
  · intro j u hu
    rw [cell_of_row _ w.heap.size (0 + j) v.cells t (0, 0) (heap_alloc_new w _), Nat.zero_add]
    exact hu

theorem ok_alloc (I : Iv Γ σ ρ a w) {o : Oper} {t d : Nat} {z : Value} {K : St → Prop} (ho : o.op = .alloc t) (hd : o.dst = some d) (hdn : d < Γ.n) (hz : zeroOf Γ.P t = some z) (h1 : z.cells.all (·.oneCell') = true)
    (hf : σ.free d = true) (hi : Γ.inn d = none) (hk : K ⟨(d, .ptr d 0) :: σ.t, ins d (.box (z.cells.toList.map fun v => .sv (.raw v))) σ.h⟩) : XOk Γ a w o True K := by
  have hz' : (zeroValue t).run Γ.P w = .ok z w := by
    unfold zeroOf at hz
    cases hi : Γ.P.info? t with
    | none => simp [hi] at hz
    | some i => simp [hi] at hz; simp [zeroValue, typeInfo, hi, hz]
  have run : (execOp a.eval o).run Γ.P w = .ok (.value (.pointer (some ⟨w.heap.size, 0, none⟩))) (w.alloc (.cells z.cells t)) := by
    simp [execOp, ho, Instr.alloc, hz', newVar, newRow]
  unfold XOk oN
  rw [run]
  refine ⟨_, hk, ⟨upd ρ d (.pointer (some ⟨w.heap.size, 0, none⟩)), ?_⟩, fun _ => alloc_ext w _⟩
  have I' := I.fresh (k := d) (e := .box (z.cells.toList.map fun v => .sv (.raw v))) (v' := .pointer (some ⟨w.heap.size, 0, none⟩)) (o := .cells z.cells t) hf hi rfl
    (box_rep (by simp) (fun j lv u hj hu => by
      rw [List.getElem?_map] at hj
      have hu' : z.cells.toList[j]? = some u := by simpa using hu
      rw [hu'] at hj
      simp at hj
      subst hj
      exact ⟨⟨Rep.raw u, rfl⟩, (Array.all_eq_true_iff_forall_mem.1 h1) u (Array.mem_of_getElem? hu)⟩))
  have := I'.put (d := some d) (lv := .ptr d 0) (v := .pointer (some ⟨w.heap.size, 0, none⟩)) (by simpa using hdn) ⟨w.heap.size, upd_at _ _ _, rfl⟩
  rw [hd]
  exact this

theorem foldl_set (off : Nat) (m : Nat) : ∀ (v : List Value) (k : Nat) (cs : Array Value), m < cs.size →
    ((v.zipIdx k).foldl (fun cs p => cs.setIfInBounds (off + p.2) p.1) cs)[m]? = if off + k ≤ m ∧ m < off + k + v.length then v[m - off - k]? else cs[m]?
  | [], k, cs, _ => by
    rw [if_neg (by simp only [List.length_nil]; omega)]; rfl
  | x :: v, k, cs, hm => by
    rw [List.zipIdx_cons, List.foldl_cons, foldl_set off m v (k + 1) _ (by simpa using hm)]
    by_cases h1 : off + k = m
    · subst h1
      rw [if_neg (by omega), if_pos (by simp)]
      simp [hm]
    · by_cases h2 : off + (k + 1) ≤ m ∧ m < off + (k + 1) + v.length
      · rw [if_pos h2, if_pos (by simp only [List.length_cons]; omega)]
        rw [show m - off - k = (m - off - (k + 1)) + 1 by omega]; simp
      · rw [if_neg h2, if_neg (by simp only [List.length_cons]; omega), Array.getElem?_setIfInBounds_ne (by simpa using h1)]

theorem foldl_set_size (off : Nat) : ∀ (v : List Value) (k : Nat) (cs : Array Value), ((v.zipIdx k).foldl (fun cs p => cs.setIfInBounds (off + p.2) p.1) cs).size = cs.size
  | [], _, _ => rfl
  | x :: v, k, cs => by rw [List.zipIdx_cons, List.foldl_cons, foldl_set_size off v (k + 1)]; simp

theorem fill_rows (n : Nat) : ∀ (vs : List Value) (k : Nat) (cs : Array Value), (∀ v ∈ vs, v.cells.size = n) → cs.size = (k + vs.length) * n →
    ∃ out, Instr.fill (fun i => some (i * n, n)) cs (vs.zipIdx k |>.map fun p => (p.2, p.1)) = some out ∧ out.size = cs.size ∧ (∀ m, m < k * n → out[m]? = cs[m]?) ∧
      ∀ i v, vs[i]? = some v → ∀ j, j < n → out[(k + i) * n + j]? = v.cells[j]?
  | [], k, cs, _, _ => ⟨cs, by simp [Instr.fill], rfl, fun _ _ => rfl, fun i v h => by simp at h⟩
  | x :: vs, k, cs, hv, hs => by
    have hx : x.cells.size = n := hv x (by simp)
    have hle : k * n + n ≤ cs.size := by
      rw [hs, show k * n + n = (k + 1) * n by rw [Nat.add_mul]; omega]
      exact Nat.mul_le_mul_right _ (by simp)
    let cs1 : Array Value := (x.cells.toList.zipIdx 0).foldl (fun cs p => cs.setIfInBounds (k * n + p.2) p.1) cs
    have hs1 : cs1.size = cs.size := foldl_set_size _ _ _ _
    obtain ⟨out, h1, h2, h3, h4⟩ := fill_rows n vs (k + 1) cs1 (fun v h => hv v (by simp [h])) (by rw [hs1, hs]; simp; congr 1; omega)
    refine ⟨out, ?_, h2.trans hs1, fun m hm => ?_, fun i v hi j hj => ?_⟩
    · rw [List.zipIdx_cons, List.map_cons]
      simp only [Instr.fill]
      rw [if_neg (by simp [hx]; omega)]
      have : (x.cells.zipIdx.foldl (fun cs (c, j) => cs.setIfInBounds (k * n + j) c) cs) = cs1 := by
        show _ = (x.cells.toList.zipIdx 0).foldl _ cs
        rw [← Array.foldl_toList, Array.toList_zipIdx]
      rw [this]
      exact h1
    · rw [h3 m (by rw [Nat.add_mul]; omega), foldl_set _ _ _ _ _ (by omega)]
      rw [if_neg (by omega)]
    · cases i with
      | zero =>
        simp at hi
        subst hi
        have hkm : (k + 1) * n = k * n + n := by rw [Nat.add_mul]; omega
        rw [Nat.add_zero, h3 _ (by omega), foldl_set _ _ _ _ _ (by omega)]
        have hxl : x.cells.toList.length = n := by simpa using hx
        rw [if_pos (by rw [hxl]; omega)]
        rw [show k * n + j - k * n - 0 = j by omega]
        simp
      | succ i =>
        have := h4 i v (by simpa using hi) j hj
        rw [show k + (i + 1) = k + 1 + i by omega]
        exact this

def litParts : Nat → List (Nat × Operand) → Bool
  | _, [] => true
  | k, (i, _) :: l => i == k && litParts (k + 1) l
theorem litParts_spec (f : Operand → Value) : ∀ (l : List (Nat × Operand)) (k : Nat), litParts k l = true → l.map (fun p => (p.1, f p.2)) = ((l.map fun p => f p.2).zipIdx k).map fun p => (p.2, p.1)
  | [], _, _ => rfl
  | (i, x) :: l, k, h => by
    simp only [litParts, Bool.and_eq_true, beq_iff_eq] at h
    simp only [List.map_cons, List.zipIdx_cons]
    rw [← litParts_spec f l (k + 1) h.2, h.1]

theorem ok_buildSlice (I : Iv Γ σ ρ a w) {o : Oper} {t e n len : Nat} {z : Value} {parts : Array (Nat × Operand)} {l : List SV} {K : St → Prop} (ho : o.op = .buildSlice t len parts) (hdn : dstOk Γ o = true)
    (he : elOf Γ.P t = some (e, n)) (hz : zeroOf Γ.P e = some z) (hn : 0 < n) (hlen : len = parts.size) (hbig : len * n ≤ 16777216) (hp : litParts 0 parts.toList = true)
    (hl : parts.toList.map (fun p => σ.ev p.2) = l.map LV.sv) (h1 : ∀ s ∈ l, ((∃ c, s = .agg c) ∨ s.one = true) ∧ s.cells.length = n)
    (hk : K (σ.put o.dst (.sv (.sl n l)))) : XOk Γ a w o True K := by
  obtain ⟨hu, hs⟩ := elOf_spec he
  have hz' : (zeroValue e).run Γ.P w = .ok z w := by
    unfold zeroOf at hz
    cases hi : Γ.P.info? e with
    | none => simp [hi] at hz
    | some i => simp [hi] at hz; simp [zeroValue, typeInfo, hi, hz]
  have hll : l.length = len := by have := congrArg List.length hl; simp at this; omega
  let vs := parts.toList.map fun p => a.eval p.2
  have hvs : ∀ (i : Nat) (s : SV), l[i]? = some s → ∃ v, vs[i]? = some v ∧ Rep w (Own Γ σ.h ρ) s v := by
    intro i s hi
    have h2 : (parts.toList.map fun p => σ.ev p.2)[i]? = some (.sv s) := by rw [hl, List.getElem?_map, hi]; rfl
    rw [List.getElem?_map] at h2
    cases hp2 : parts.toList[i]? with
    | none => simp [hp2] at h2
    | some p =>
      simp only [hp2, Option.map_some, Option.some.injEq] at h2
      refine ⟨a.eval p.2, by simp [vs, List.getElem?_map, hp2], ?_⟩
      have := I.ev p.2
      rw [h2] at this
      exact this
  have hvl : vs.length = len := by simp [vs]; omega
  have hcs : ∀ v ∈ vs, v.cells.size = n := by
    intro v hv
    obtain ⟨i, hi⟩ := List.getElem?_of_mem hv
    have hlt : i < l.length := by rw [hll, ← hvl]; exact (List.getElem?_eq_some_iff.1 hi).1
    obtain ⟨v', hv', hr⟩ := hvs i l[i] (List.getElem?_eq_getElem hlt)
    rw [hi] at hv'
    cases hv'
    have h3 := h1 l[i] (List.getElem_mem hlt)
    rw [(sv_cells hr h3.1).1]; exact h3.2
  let cs0 : Array Value := (Array.range (len * n)).map (z.cells[· % z.cells.size]!)
  obtain ⟨out, hf, hos, _, hcell⟩ := fill_rows n vs 0 cs0 hcs (by simp [cs0, hvl])
  have hparts : (parts.map fun p => (p.1, a.eval p.2)).toList = (vs.zipIdx 0).map fun p => (p.2, p.1) := by
    rw [Array.toList_map]; exact litParts_spec a.eval parts.toList 0 hp
  have run : (execOp a.eval o).run Γ.P w = .ok (.value (.slice (some ⟨w.heap.size, 0, none⟩) len len)) (w.alloc (.cells out e)) := by
    have hb : ¬ (16777216 < len * n) := by omega
    by_cases h0 : len * n = 0
    · have hl0 : len = 0 := by rcases Nat.mul_eq_zero.1 h0 with h | h <;> omega
      have hcs0 : cs0 = #[] := by simp [cs0, h0]
      have hf' : Instr.fill (fun i => some (i * n, n)) #[] (parts.map fun p => (p.1, a.eval p.2)).toList = some out := by rw [hparts, ← hcs0]; exact hf
      simp only [Array.toList_map] at hf'
      simp [execOp, ho, Instr.buildSlice, run_underlying hu, run_sizeOf hs, newRow, hf', hl0, show Array.range 0 = #[] from rfl]
    · have hf' : Instr.fill (fun i => some (i * n, n)) ((Array.range (len * n)).map (z.cells[· % z.cells.size]!)) (parts.map fun p => (p.1, a.eval p.2)).toList = some out := by rw [hparts]; exact hf
      simp only [Array.toList_map] at hf'
      simp [execOp, ho, Instr.buildSlice, run_underlying hu, run_sizeOf hs, hb, h0, hz', newRow, hf']
  unfold XOk oN
  rw [run]
  have hx := alloc_ext w (.cells out e)
  refine ⟨_, hk, ⟨ρ, (I.ext hx).put (dstOk_spec hdn) ?_⟩, fun _ => hx⟩
  rw [← hll]
  by_cases hl0 : l.length = 0
  · have : l = [] := List.eq_nil_of_length_eq_zero hl0
    subst this
    exact Rep.nil _ _ _
  · refine Rep.sl n l w.heap.size 0 _ (fun i => vs.getD i undef) (fun hno => Nat.lt_irrefl _ (blk_lt I hno)) (by omega) (Nat.le_refl _) hn ?_ ?_ ?_
    · intro i s hi
      obtain ⟨v, hv, hr⟩ := hvs i s hi
      rw [List.getD_eq_getElem?_getD, hv]
      exact Rep.kp hr (ekp hx _)
    · intro i hi
      refine hcs _ ?_
      have hlt : i < vs.length := by omega
      rw [List.getD_eq_getElem?_getD, List.getElem?_eq_getElem hlt]
      exact List.getElem_mem hlt
    · intro i hi j u hu
      have hlt : i < vs.length := by omega
      rw [List.getD_eq_getElem?_getD, List.getElem?_eq_getElem hlt] at hu
      have hjn : j < n := by
        have := hcs _ (List.getElem_mem hlt)
        have h2 := (Array.getElem?_eq_some_iff.1 hu).1
        simp at h2; omega
      have h3 := hcell i vs[i] (List.getElem?_eq_getElem hlt) j hjn
      rw [Nat.zero_add] at h3
      rw [cell_of_row _ w.heap.size _ out e (0, 0) (heap_alloc_new w _)]
      rw [Nat.zero_add, h3]
      exact hu
end
end Go.Abs

/- A store, an append, a row made: what they do to plain values. No condition. -/
namespace Go.Abs
open Go Go.RowKit Go.Eager

theorem ownsRow_base {w : World} {B B' e size : Nat} {v : Value} {n : Nat} {xs : List Value} (h : w.ownsRow B e size v n xs) (hb : B' ≤ B) : w.ownsRow B' e size v n xs := by
  refine ⟨h.1, ?_⟩
  rcases h.2 with hn | ⟨g, cap, cur, hv, hg, rest⟩
  · exact .inl hn
  · exact .inr ⟨g, cap, cur, hv, Nat.le_trans hb hg, rest⟩

theorem ownsRow_blk {w : World} {B e size : Nat} {v : Value} {n : Nat} {xs : List Value} (h : w.ownsRow B e size v n xs) {b : Nat} (hb : blk v = some b) : B ≤ b ∧ b < w.heap.size := by
  rcases h.2 with ⟨rfl, _⟩ | ⟨g, cap, cur, rfl, hg, hc, _⟩
  · simp [blk] at hb
  · simp [blk] at hb
    subst hb
    exact ⟨hg, (Array.getElem?_eq_some_iff.1 hc).1⟩

theorem run_append_mine {P : Program} (w : World) (t ty e : TypeId) (i : TypeInfo) (z : Value) (size bytes : Nat) (ht : P.underlying t = some (.slice e)) (hi : P.info? e = some i) (hz : i.zero = some z)
    (hsize : i.size = size) (hby : i.bytes = bytes) (hzs : z.cells.size = size) (hsz : 0 < size)
    (v : Value) (n : Nat) (xs : List Value) (hown : w.ownsRow 0 e size v n xs)
    (a : Addr) (m c : Nat) (news : List Value) (hl : news.length = m * size) (hnews : ∀ (j : Nat) (u : Value), news[j]? = some u → w.cell? (a.add j) = some u) (h1 : ∀ u ∈ news, u.oneCell' = true)
    (h63 : n + m ≤ maxLen) (hbytes : (n + m) * bytes ≤ 140737488355328) :
    ∃ v' w', (Builtin.append_ #[t, t] ty #[v, .slice (some a) m c]).run P w = .ok v' w' ∧ w'.ownsRow 0 e size v' (n + m) (xs ++ news) ∧ w.grownBy w' (blk v) ∧
      ∀ b, blk v' = some b → b < w'.heap.size ∧ (w.heap.size ≤ b ∨ blk v = some b) := by
  rcases hown.2 with ⟨rfl, rfl⟩ | ⟨g, cap, cur, rfl, hbg, hg, hnc, hcm, hcs, htake⟩
  · have hx : xs = [] := List.eq_nil_of_length_eq_zero (by simpa using hown.1)
    subst hx
    obtain ⟨v', w', h2, h3, h4, _⟩ := run_append_own (P := P) w w.heap.size t ty e i z size bytes ht hi hz hsize hby hzs hsz (.slice none 0 0) 0 [] (World.ownsRow_nil w _ e size) a m c news hl hnews h1 h63 hbytes (Nat.le_refl _)
    exact ⟨v', w', h2, ownsRow_base h3 (Nat.zero_le _), h4, fun b hb => ⟨(ownsRow_blk h3 hb).2, .inl (ownsRow_blk h3 hb).1⟩⟩
  · by_cases hroom : n + m ≤ cap
    · obtain ⟨w', h2, h3, h4⟩ := run_append_fits (P := P) w 0 t ty e i size ht hi hsize g n cap xs hown a m c news hl hnews h1 hroom
      refine ⟨_, w', h2, h3, h4, fun b hb => ⟨(ownsRow_blk h3 hb).2, .inr ?_⟩⟩
      simpa [blk] using hb
    · obtain ⟨v', w', h2, h3, h4, _⟩ := run_append_own (P := P) w 0 t ty e i z size bytes ht hi hz hsize hby hzs hsz _ n xs hown a m c news hl hnews h1 h63 hbytes (Nat.zero_le _)
      subst hsize hby
      have hr := run_append_grow (P := P) w t ty e i z ht hi hz ⟨g, 0, none⟩ n cap xs hown.1 (hown.cells (g := g) rfl) a m c news hl hnews (by omega) (by simp only [maxLen] at h63; omega) (growslice_fits (by omega) hbytes)
      rw [hr] at h2
      simp only [Result.ok.injEq] at h2
      obtain ⟨rfl, rfl⟩ := h2
      refine ⟨_, _, hr, h3, h4, fun b hb => ⟨(ownsRow_blk h3 hb).2, .inl ?_⟩⟩
      simp [blk] at hb
      omega

section
variable {Γ : Ctx} {σ : St} {ρ : Nat → Value} {a : Act} {w : World}

theorem news_of {O : Nat → Prop} {n : Nat} {l : List SV} {v : Value} (h : Rep w O (.sl n l) v) (hl : l ≠ []) (h1 : ∀ s ∈ l, ((∃ c, s = .agg c) ∨ s.one = true)) :
    ∃ b off c, v = .slice (some ⟨b, off, none⟩) l.length c ∧ ∃ (news : List Value) (vals : Nat → Value), news.length = l.length * n ∧ (∀ (j : Nat) (u : Value), news[j]? = some u → w.cell? ((⟨b, off, none⟩ : Addr).add j) = some u) ∧
      (∀ u ∈ news, u.oneCell' = true) ∧ ∀ (i : Nat) (s : SV), l[i]? = some s → Rep w O s (vals i) ∧ (vals i).cells.size = n ∧ ∀ (j : Nat) (u : Value), (vals i).cells[j]? = some u → news[i * n + j]? = some u := by
  cases h with
  | nil => exact absurd rfl hl
  | sl _ _ b off c vals hb hpos hc hz q1 q2 q3 =>
    have get : ∀ m, m < l.length * n → m / n < l.length ∧ m % n < (vals (m / n)).cells.size := fun m hm => by
      have h1 : m / n < l.length := Nat.div_lt_of_lt_mul (by rw [Nat.mul_comm]; exact hm)
      exact ⟨h1, by rw [q2 _ h1]; exact Nat.mod_lt _ hz⟩
    let f : Nat → Value := fun m => (vals (m / n)).cells.getD (m % n) undef
    have hf : ∀ m, m < l.length * n → (vals (m / n)).cells[m % n]? = some (f m) := fun m hm => by
      have := (get m hm).2
      simp only [f, Array.getD_eq_getD_getElem?, Array.getElem?_eq_getElem this, Option.getD_some]
    refine ⟨b, off, c, rfl, (List.range (l.length * n)).map f, vals, by simp, ?_, ?_, ?_⟩
    · intro j u hj
      rw [List.getElem?_map] at hj
      have hlt : j < l.length * n := by
        by_cases h : j < l.length * n
        · exact h
        · simp [h] at hj
      rw [List.getElem?_range hlt] at hj
      simp only [Option.map_some, Option.some.injEq] at hj
      subst hj
      have := q3 (j / n) (get j hlt).1 (j % n) _ (hf j hlt)
      rw [addr_add]
      rw [show off + j = off + j / n * n + j % n by rw [Nat.add_assoc, Nat.mul_comm, Nat.div_add_mod]]
      exact this
    · intro u hu
      simp only [List.mem_map, List.mem_range] at hu
      obtain ⟨m, hm, rfl⟩ := hu
      obtain ⟨g1, g2⟩ := get m hm
      have hs := List.getElem?_eq_getElem g1
      have hr := q1 _ _ hs
      obtain ⟨k1, k2⟩ := sv_cells hr (h1 _ (List.getElem_mem g1))
      have hlt : m % n < (l[m / n]).cells.length := by omega
      exact (k2 (m % n) _ _ (List.getElem?_eq_getElem hlt) (hf m hm)).2
    · intro i s hi
      have hlt := (List.getElem?_eq_some_iff.1 hi).1
      refine ⟨q1 i s hi, q2 i hlt, fun j u hu => ?_⟩
      have hjn : j < n := by have := (Array.getElem?_eq_some_iff.1 hu).1; rw [q2 i hlt] at this; exact this
      have hm : i * n + j < l.length * n := by
        have : (i + 1) * n ≤ l.length * n := Nat.mul_le_mul_right _ hlt
        rw [Nat.add_mul] at this; omega
      rw [List.getElem?_map, List.getElem?_range hm]
      simp only [Option.map_some, Option.some.injEq]
      have e1 : (i * n + j) / n = i := by
        rw [Nat.mul_comm, Nat.mul_add_div (by omega), Nat.div_eq_of_lt hjn]; rfl
      have e2 : (i * n + j) % n = j := by
        rw [Nat.mul_comm, Nat.mul_add_mod]; exact Nat.mod_eq_of_lt hjn
      have h4 := hf _ hm
      rw [e1, e2, hu] at h4
      exact (Option.some.inj h4).symm

theorem ok_append_at (I : Iv Γ σ ρ a w) {o : Oper} {x y : Operand} {t e n by_ k d : Nat} {z : Value} {T : Nat} {l r : List SV} {K : St → Prop} (ho : o.op = .call { callee := .builtin .append, args := #[x, y], argTypes := #[t, t] })
    (hd : o.dst = some d) (hdn : d < Γ.n) (he : elOf Γ.P t = some (e, n)) (hz : zeroOf Γ.P e = some z) (hzn : z.cells.size = n) (hb : bytOf Γ.P e = some by_)
    (hX : a.eval x = ρ k) (hnm : ∀ t lv, σ.t.lookup t = some lv → lv.mentions k = false) (hk : σ.h.lookup k = some (.row n T l)) (hT : T = e) (hi : Γ.inn k = none) (hbox : ∀ k1 e1, k1 ≠ k → σ.h.lookup k1 = some e1 → e1.mentions k = false)
    (hy : σ.ev y = .sv (.sl n r)) (hr : r ≠ []) (h1 : ∀ s ∈ r, ((∃ c, s = .agg c) ∨ s.one = true)) (h63 : l.length + r.length ≤ maxLen) (hbytes : (l.length + r.length) * by_ ≤ 140737488355328)
    (hK : K ⟨(d, .own k) :: σ.t, ins k (.row n T (l ++ r)) σ.h⟩) : XOk Γ a w o False K := by
  subst hT
  obtain ⟨hu, hs⟩ := elOf_spec he
  have hY := I.ev y
  rw [hy] at hY
  obtain ⟨hz0, xs, vals0, hown, hrep⟩ := I.ent k _ hk
  obtain ⟨b, off, c, hyv, news, vals1, n1, n2, n3, n4⟩ := news_of hY hr h1
  unfold zeroOf at hz
  unfold szOf at hs
  unfold bytOf at hb
  cases hinfo : Γ.P.info? T with
  | none => simp [hinfo] at hz
  | some i =>
    simp only [hinfo, Option.bind_some, Option.map_some, Option.some.injEq] at hz hs hb
    obtain ⟨v', w', h2, h3, h4, h5⟩ := run_append_mine (P := Γ.P) w t o.type T i z n by_ hu hinfo hz hs hb hzn hz0 (ρ k) l.length xs hown ⟨b, off, none⟩ r.length c news n1 n2 n3 h63 hbytes
    have run : (execOp a.eval o).run Γ.P w = .ok (.value v') w' := by
      simp [execOp, ho, resolve, invoke, builtin, hX, hyv, h2]
    unfold XOk oN
    rw [run]
    refine ⟨_, hK, ⟨upd ρ k v', ?_⟩, fun h => h.elim⟩
    have kp : Kp w (Own Γ σ.h ρ) w' (Own Γ (ins k (.row n T (l ++ r)) σ.h) (upd ρ k v')) := by
      intro b hlt hno
      refine ⟨h4.block b hlt fun hbk => hno (.inr ⟨k, _, hk, hbk.symm⟩), ?_⟩
      rintro (hO | ⟨k1, e1, hk1, hb1⟩)
      · exact hno (.inl hO)
      · rw [lookup_ins] at hk1
        by_cases hkk : k1 = k
        · subst hkk
          rw [upd_at] at hb1
          rcases (h5 b hb1).2 with h | h
          · omega
          · exact hno (.inr ⟨k1, _, hk, h⟩)
        · rw [if_neg hkk] at hk1
          rw [upd_ne _ _ hkk] at hb1
          exact hno (.inr ⟨k1, e1, hk1, hb1⟩)
    have I' := I.heap (t' := σ.t) (k := k) (e := .row n T (l ++ r)) (v' := v') (w' := w') (fun t lv h => .inl h)
      (.inr ⟨hnm, hbox⟩) ⟨h4.os, h4.tape, h4.output, h4.size⟩ (fun b hlt hne => h4.block b hlt fun hbk => hne _ hk hbk.symm)
      (fun b hb => ⟨(h5 b hb).1, (h5 b hb).2.imp id fun h => ⟨_, hk, h⟩⟩) (by rw [hi]; intro v h; cases h) (by
        refine ⟨hz0, xs ++ news, fun i => if i < l.length then vals0 i else vals1 (i - l.length), ?_, ?_⟩
        · rw [upd_at, List.length_append]; exact h3
        · intro i s hs'
          have hxl : xs.length = l.length * n := hown.1
          by_cases hil : i < l.length
          · simp only [hil, if_true]
            rw [List.getElem?_append_left hil] at hs'
            obtain ⟨r1, r2, r3⟩ := hrep i s hs'
            refine ⟨r1.kp kp, r2, fun j u hu' => ?_⟩
            have hh := r3 j u hu'
            rw [List.getElem?_append_left (List.getElem?_eq_some_iff.1 hh).1]; exact hh
          · simp only [hil, if_false]
            rw [List.getElem?_append_right (by omega)] at hs'
            obtain ⟨r1, r2, r3⟩ := n4 _ s hs'
            refine ⟨r1.kp kp, r2, fun j u hu' => ?_⟩
            have hh := r3 j u hu'
            have hge : l.length * n ≤ i * n := Nat.mul_le_mul_right _ (by omega)
            rw [List.getElem?_append_right (by omega), hxl]
            rw [show i * n + j - l.length * n = (i - l.length) * n + j by rw [Nat.sub_mul]; omega]
            exact hh)
    have := I'.put (d := some d) (lv := .own k) (v := v') (by simpa using hdn) (upd_at ρ k v').symm
    rw [hd]
    exact this
end
end Go.Abs

/- A store into a box or a row of ours, a row made; and what is given up of what is known. No condition. -/
namespace Go.Abs
open Go Go.RowKit Go.Eager

theorem getElem?_spl {α : Type} (l vs : List α) (j m : Nat) (h : j + vs.length ≤ l.length) : (l.take j ++ vs ++ l.drop (j + vs.length))[m]? = if j ≤ m ∧ m < j + vs.length then vs[m - j]? else l[m]? := by
  have hl : (l.take j).length = j := by simp; omega
  by_cases h1 : m < j
  · rw [if_neg (by omega), List.append_assoc, List.getElem?_append_left (by omega), List.getElem?_take, if_pos h1]
  · by_cases h2 : m < j + vs.length
    · rw [if_pos (by omega), List.append_assoc, List.getElem?_append_right (by omega), hl, List.getElem?_append_left (by omega)]
    · rw [if_neg (by omega), List.getElem?_append_right (by simp; omega), List.getElem?_drop]
      congr 1
      simp; omega
theorem length_spl {α : Type} (l vs : List α) (j : Nat) (h : j + vs.length ≤ l.length) : (l.take j ++ vs ++ l.drop (j + vs.length)).length = l.length := by
  simp; omega

theorem run_storeAt {P : Program} {t : TypeId} {v : Value} {b j : Nat} {cur : Array Value} {T : TypeId} {w : World} (hs : szOf P t = some v.cells.size) (hg : w.heap[b]? = some (.cells cur T (0, 0)))
    (hfit : j + v.cells.size ≤ cur.size) (h1 : ∀ u ∈ v.cells.toList, u.oneCell' = true) :
    (Instr.storeAt t (.pointer (some ⟨b, j, none⟩)) v).run P w = .ok () (w.setRow b (cur.toList.take j ++ v.cells.toList ++ cur.toList.drop (j + v.cells.toList.length)).toArray) := by
  have h := run_storeCells_at P b j T v.cells.toList 0 cur w hg (by simpa using hfit) h1
  simp only [Nat.add_zero] at h
  simp [Instr.storeAt, Instr.sureAddr, storeVar, run_sizeOf hs, h]

section
variable {Γ : Ctx} {σ : St} {ρ : Nat → Value} {a : Act} {w : World}

theorem kp_same {k : Nat} {e e0 : Ent} {b : Nat} {cs : Array Value} (hk : σ.h.lookup k = some e0) (hb : blk (ρ k) = some b) : Kp w (Own Γ σ.h ρ) (w.setRow b cs) (Own Γ (ins k e σ.h) ρ) := by
  intro b' hlt hno
  refine ⟨setRow_other w b b' cs (fun h => hno (.inr ⟨k, e0, hk, by rw [hb, h]⟩)), ?_⟩
  rintro (hO | ⟨k1, e1, hk1, hb1⟩)
  · exact hno (.inl hO)
  · rw [lookup_ins] at hk1
    by_cases hkk : k1 = k
    · subst hkk; exact hno (.inr ⟨k1, e0, hk, hb1⟩)
    · rw [if_neg hkk] at hk1; exact hno (.inr ⟨k1, e1, hk1, hb1⟩)

theorem Iv.write (I : Iv Γ σ ρ a w) {k : Nat} {e e0 : Ent} {b : Nat} {cs : Array Value} (hk : σ.h.lookup k = some e0) (hb : blk (ρ k) = some b)
    (he : ERep (w.setRow b cs) (Own Γ (ins k e σ.h) ρ) ρ k e) : Iv Γ ⟨σ.t, ins k e σ.h⟩ ρ a (w.setRow b cs) := by
  have hsz : (w.setRow b cs).heap.size = w.heap.size := by simp [World.setRow]
  have h := I.heap (t' := σ.t) (k := k) (e := e) (v' := ρ k) (w' := w.setRow b cs) (fun t lv h => .inl h) (.inl rfl) ⟨rfl, rfl, rfl, by rw [hsz]; exact Nat.le_refl _⟩
    (fun b' _ hne => setRow_other w b b' cs (fun h => hne e0 hk (by rw [hb, h]))) (fun b' hb' => ⟨by rw [hsz]; exact (I.new k e0 b' hk hb').2, .inr ⟨e0, hk, hb'⟩⟩) (fun v hv => I.inn k v hv)
    (by rw [upd_self]; exact he)
  rw [upd_self] at h
  exact h

theorem ok_store_box (I : Iv Γ σ ρ a w) {o : Oper} {t k j : Nat} {x y : Operand} {cells new : List LV} {K : St → Prop} (ho : o.op = .store t x y) (hdn : dstOk Γ o = true)
    (hx : σ.ev x = .ptr k j) (hk : σ.h.lookup k = some (.box cells)) (hs : szOf Γ.P t = some new.length) (hfit : j + new.length ≤ cells.length)
    (hnew : (a.eval y).cells.size = new.length ∧ ∀ (i : Nat) (lv : LV) (u : Value), new[i]? = some lv → (a.eval y).cells[i]? = some u → LRep w (Own Γ σ.h ρ) ρ lv u ∧ u.oneCell' = true)
    (hK : K ((⟨σ.t, ins k (.box (cells.take j ++ new ++ cells.drop (j + new.length))) σ.h⟩ : St).put o.dst .dead)) : XOk Γ a w o False K := by
  obtain ⟨hn1, hn2⟩ := hnew
  have hX := I.ev x
  rw [hx] at hX
  obtain ⟨b, hr, hxv⟩ := hX
  obtain ⟨b', T, cur, hr', hcur, hsz, hcells⟩ := I.ent k _ hk
  rw [hr] at hr'
  simp only [Value.pointer.injEq, Option.some.injEq, Addr.mk.injEq, and_true] at hr'
  subst hr'
  generalize hv : a.eval y = v at hn1 hn2
  have h1 : ∀ u ∈ v.cells.toList, u.oneCell' = true := by
    intro u hu
    obtain ⟨i, hi⟩ := List.getElem?_of_mem hu
    have hi' : v.cells[i]? = some u := by simpa using hi
    have hlt : i < new.length := by rw [← hn1]; exact (Array.getElem?_eq_some_iff.1 hi').1
    exact (hn2 i _ u (List.getElem?_eq_getElem hlt) hi').2
  have run0 := run_storeAt (P := Γ.P) (t := t) (v := v) (b := b) (j := j) (by rw [hs, hn1]) hcur (by rw [hn1, hsz]; exact hfit) h1
  have run : (execOp a.eval o).run Γ.P w = .ok .skip (w.setRow b (cur.toList.take j ++ v.cells.toList ++ cur.toList.drop (j + v.cells.toList.length)).toArray) := by
    simp [execOp, ho, hxv, hv] at run0 ⊢
    simp [run0]
  unfold XOk oN
  rw [run]
  have hbk : blk (ρ k) = some b := by rw [hr]; rfl
  have hvl : v.cells.toList.length = new.length := by simpa using hn1
  have kp := kp_same (Γ := Γ) (w := w) (e := .box (cells.take j ++ new ++ cells.drop (j + new.length))) (cs := (cur.toList.take j ++ v.cells.toList ++ cur.toList.drop (j + v.cells.toList.length)).toArray) hk hbk
  refine ⟨_, hK, ⟨ρ, (I.write (e := .box (cells.take j ++ new ++ cells.drop (j + new.length))) hk hbk ?_).put (dstOk_spec hdn) trivial⟩, fun h => h.elim⟩
  refine ⟨b, T, _, hr, setRow_heap w b cur _ T (0, 0) hcur, ?_, ?_⟩
  · rw [length_spl _ _ _ hfit, List.size_toArray, length_spl _ _ _ (by rw [hvl]; simpa [hsz] using hfit)]
    simpa using hsz
  · intro i lv u hi hu
    rw [getElem?_spl _ _ _ _ hfit] at hi
    rw [List.getElem?_toArray, getElem?_spl _ _ _ _ (by rw [hvl]; simpa [hsz] using hfit), hvl] at hu
    by_cases hh : j ≤ i ∧ i < j + new.length
    · rw [if_pos hh] at hi hu
      have := hn2 (i - j) lv u hi (by simpa using hu)
      exact ⟨this.1.kp kp, this.2⟩
    · rw [if_neg hh] at hi hu
      have := hcells i lv u hi (by simpa using hu)
      exact ⟨this.1.kp kp, this.2⟩

theorem ok_store_row (I : Iv Γ σ ρ a w) {o : Oper} {t k sz i j T : Nat} {x y : Operand} {l : List SV} {s s' : SV} {K : St → Prop} (ho : o.op = .store t x y) (hdn : dstOk Γ o = true)
    (hx : σ.ev x = .eptr k sz i j) (hk : σ.h.lookup k = some (.row sz T l)) (hi : l[i]? = some s) (hs : szOf Γ.P t = some (a.eval y).cells.size) (hfit : j + (a.eval y).cells.size ≤ sz) (h1 : ∀ u ∈ (a.eval y).cells.toList, u.oneCell' = true)
    (hnew : ∀ v, Rep w (Own Γ σ.h ρ) s v → v.cells.size = sz → ∃ v', Rep w (Own Γ σ.h ρ) s' v' ∧ v'.cells.size = sz ∧ ∀ m, m < sz → v'.cells[m]? = if j ≤ m ∧ m < j + (a.eval y).cells.size then (a.eval y).cells[m - j]? else v.cells[m]?)
    (hK : K ((⟨σ.t, ins k (.row sz T (l.set i s')) σ.h⟩ : St).put o.dst .dead)) : XOk Γ a w o False K := by
  have hX := I.ev x
  rw [hx] at hX
  obtain ⟨b, n, c, hr, hxv⟩ := hX
  obtain ⟨hz, xs, vals, hown, hrep⟩ := I.ent k _ hk
  generalize hv : a.eval y = v at hs hfit h1 hnew
  have hlt := (List.getElem?_eq_some_iff.1 hi).1
  rw [hr] at hown
  rcases hown.2 with ⟨h0, _⟩ | ⟨g, cap, cur, h0, hbg, hcur, hnc, hcm, hcs, htake⟩
  · simp at h0
  simp only [Value.slice.injEq, Option.some.injEq, Addr.mk.injEq, and_true] at h0
  obtain ⟨rfl, rfl, rfl⟩ := h0
  have hxl : xs.length = l.length * sz := hown.1
  have hle : (i + 1) * sz ≤ l.length * sz := Nat.mul_le_mul_right _ hlt
  rw [Nat.add_mul] at hle
  have hle2 : l.length * sz ≤ c * sz := Nat.mul_le_mul_right _ hnc
  have run0 := run_storeAt (P := Γ.P) (t := t) (v := v) (b := b) (j := i * sz + j) hs hcur (by omega) h1
  have run : (execOp a.eval o).run Γ.P w = .ok .skip (w.setRow b (cur.toList.take (i * sz + j) ++ v.cells.toList ++ cur.toList.drop (i * sz + j + v.cells.toList.length)).toArray) := by
    simp [execOp, ho, hxv, hv] at run0 ⊢
    simp [run0]
  unfold XOk oN
  rw [run]
  have hbk : blk (ρ k) = some b := by rw [hr]; rfl
  have hcl : i * sz + j + v.cells.toList.length ≤ cur.toList.length := by simp; omega
  have hxl' : i * sz + j + v.cells.toList.length ≤ xs.length := by simp; omega
  have kp := kp_same (Γ := Γ) (w := w) (e := .row sz T (l.set i s')) (cs := (cur.toList.take (i * sz + j) ++ v.cells.toList ++ cur.toList.drop (i * sz + j + v.cells.toList.length)).toArray) hk hbk
  obtain ⟨r1, r2, r3⟩ := hrep i s hi
  obtain ⟨v', q1, q2, q3⟩ := hnew (vals i) r1 r2
  refine ⟨_, hK, ⟨ρ, (I.write (e := .row sz T (l.set i s')) hk hbk ?_).put (dstOk_spec hdn) trivial⟩, fun h => h.elim⟩
  refine ⟨hz, xs.take (i * sz + j) ++ v.cells.toList ++ xs.drop (i * sz + j + v.cells.toList.length), fun m => if m = i then v' else vals m, ?_, ?_⟩
  · rw [List.length_set, hr]
    refine ⟨by rw [length_spl _ _ _ hxl']; exact hxl, .inr ⟨b, c, _, rfl, hbg, setRow_heap w b cur _ T (0, 0) hcur, hnc, hcm, ?_, ?_⟩⟩
    · rw [List.size_toArray, length_spl _ _ _ hcl]; simpa using hcs
    · apply List.ext_getElem?
      intro m
      rw [List.getElem?_take, List.toList_toArray, getElem?_spl _ _ _ _ hcl, getElem?_spl _ _ _ _ hxl']
      have hcx : ∀ m, m < l.length * sz → cur.toList[m]? = xs[m]? := fun m hm => by rw [← htake, List.getElem?_take, if_pos hm]
      by_cases hm : m < l.length * sz
      · rw [if_pos hm]
        split
        · rfl
        · exact hcx m hm
      · rw [if_neg hm, if_neg (by simp; omega), List.getElem?_eq_none (by omega)]
  · intro m sm hm
    rw [List.getElem?_set] at hm
    by_cases him : i = m
    · subst him
      rw [if_pos rfl, if_pos hlt] at hm
      simp only [Option.some.injEq] at hm
      subst hm
      simp only [if_true]
      refine ⟨q1.kp kp, q2, fun jj u hu => ?_⟩
      have hjs : jj < sz := by have := (Array.getElem?_eq_some_iff.1 hu).1; omega
      rw [q3 jj hjs] at hu
      rw [getElem?_spl _ _ _ _ hxl']
      simp only [Array.length_toList]
      by_cases hh : j ≤ jj ∧ jj < j + v.cells.size
      · rw [if_pos hh] at hu
        rw [if_pos (by omega)]
        rw [show i * sz + jj - (i * sz + j) = jj - j by omega]; simpa using hu
      · rw [if_neg hh] at hu
        rw [if_neg (by omega)]
        exact r3 jj u hu
    · rw [if_neg him] at hm
      rw [show (fun m => if m = i then v' else vals m) m = vals m from if_neg (Ne.symm him)]
      obtain ⟨p1, p2, p3⟩ := hrep m sm hm
      refine ⟨p1.kp kp, p2, fun jj u hu => ?_⟩
      have hjs : jj < sz := by have := (Array.getElem?_eq_some_iff.1 hu).1; omega
      have hh := p3 jj u hu
      rw [getElem?_spl _ _ _ _ hxl']
      simp only [Array.length_toList]
      rw [if_neg ?_]
      · exact hh
      · rcases Nat.lt_or_gt_of_ne him with h | h
        · have : (i + 1) * sz ≤ m * sz := Nat.mul_le_mul_right _ h
          rw [Nat.add_mul] at this; omega
        · have : (m + 1) * sz ≤ i * sz := Nat.mul_le_mul_right _ h
          rw [Nat.add_mul] at this; omega

theorem Iv.sub (I : Iv Γ σ ρ a w) {σ' : St} (ht : ∀ t lv, σ'.t.lookup t = some lv → σ.t.lookup t = some lv) (hh : ∀ k e, σ'.h.lookup k = some e → σ.h.lookup k = some e) : Iv Γ σ' ρ a w := by
  have kp : Kp w (Own Γ σ.h ρ) w (Own Γ σ'.h ρ) := fun b _ hno => ⟨rfl, fun h => hno (h.imp id fun ⟨k, e, hk, hb⟩ => ⟨k, e, hh k e hk, hb⟩)⟩
  exact ⟨I.dfr, I.size, I.frm, fun t lv h => (I.tmp t lv (ht t lv h)).kp kp, fun k e hk => (I.ent k e (hh k e hk)).step kp (fun _ _ => rfl) rfl (fun _ _ _ _ _ _ h => h),
    fun k e b hk hb => I.new k e b (hh k e hk) hb, fun k k' e e' b h1 h2 => I.sep k k' e e' b (hh _ _ h1) (hh _ _ h2), I.out, I.inn⟩

theorem Own.sub {h h' : List (Nat × Ent)} (hh : ∀ k e, h'.lookup k = some e → h.lookup k = some e) : Kp w (Own Γ h ρ) w (Own Γ h' ρ) := fun _ _ hno => ⟨rfl, fun q => hno (q.imp id fun ⟨k, e, hk, hb⟩ => ⟨k, e, hh k e hk, hb⟩)⟩

def dropH (k : Nat) (h : List (Nat × Ent)) : List (Nat × Ent) := h.filter fun p => p.1 != k
theorem dropH_lookup {k k' : Nat} {e : Ent} : ∀ {h : List (Nat × Ent)}, (dropH k h).lookup k' = some e → h.lookup k' = some e ∧ k' ≠ k
  | [], h => by simp [dropH] at h
  | (k1, e1) :: l, h => by
    by_cases h1 : k1 = k
    · subst h1
      have hd : dropH k1 ((k1, e1) :: l) = dropH k1 l := by simp [dropH]
      rw [hd] at h
      obtain ⟨h2, h3⟩ := dropH_lookup h
      refine ⟨?_, h3⟩
      rw [List.lookup_cons]
      have : (k' == k1) = false := by simpa using h3
      simp only [this]; exact h2
    · have hd : dropH k ((k1, e1) :: l) = (k1, e1) :: dropH k l := by simp [dropH, h1]
      rw [hd, List.lookup_cons] at h
      rw [List.lookup_cons]
      by_cases h2 : k' = k1
      · subst h2
        simp only [BEq.rfl] at h ⊢
        exact ⟨h, h1⟩
      · have : (k' == k1) = false := by simpa using h2
        simp only [this] at h ⊢
        exact dropH_lookup h

theorem Iv.rekey (I : Iv Γ σ ρ a w) {k d : Nat} {e : Ent} (hf : σ.free d = true) (hk : σ.h.lookup k = some e) (hi : Γ.inn d = none) : Iv Γ ⟨σ.t, ins d e (dropH k σ.h)⟩ (upd ρ d (ρ k)) a w := by
  obtain ⟨f1, f2, f3⟩ := free_spec hf
  have hl : ∀ k1 e1, (ins d e (dropH k σ.h)).lookup k1 = some e1 → (k1 = d ∧ e1 = e) ∨ (k1 ≠ d ∧ k1 ≠ k ∧ σ.h.lookup k1 = some e1) := by
    intro k1 e1 h
    rw [lookup_ins] at h
    by_cases h1 : k1 = d
    · rw [if_pos h1] at h; cases h; exact .inl ⟨h1, rfl⟩
    · rw [if_neg h1] at h
      exact .inr ⟨h1, (dropH_lookup h).2, (dropH_lookup h).1⟩
  have kp : Kp w (Own Γ σ.h ρ) w (Own Γ (ins d e (dropH k σ.h)) (upd ρ d (ρ k))) := by
    intro b _ hno
    refine ⟨rfl, ?_⟩
    rintro (hO | ⟨k1, e1, hk1, hb1⟩)
    · exact hno (.inl hO)
    · rcases hl k1 e1 hk1 with ⟨rfl, rfl⟩ | ⟨h1, h2, h3⟩
      · rw [upd_at] at hb1; exact hno (.inr ⟨k, e1, hk, hb1⟩)
      · rw [upd_ne _ _ h1] at hb1; exact hno (.inr ⟨k1, e1, h3, hb1⟩)
  have kc : ∀ k1 e1, σ.h.lookup k1 = some e1 → ∀ cells, (e1 = .box cells ∨ ∃ T, e1 = .rowl T cells) → ∀ (j : Nat) (lv : LV) (v : Value), cells[j]? = some lv → LRep w (Own Γ (ins d e (dropH k σ.h)) (upd ρ d (ρ k))) ρ lv v → LRep w (Own Γ (ins d e (dropH k σ.h)) (upd ρ d (ρ k))) (upd ρ d (ρ k)) lv v := by
    intro k1 e1 hk1 cells hc j lv v hj hlv
    refine hlv.upd ?_
    have := f2 k1 e1 hk1
    rcases hc with rfl | ⟨T, rfl⟩ <;>
    · simp only [Ent.mentions, List.any_eq_false] at this
      simpa using this lv (List.mem_of_getElem? hj)
  refine ⟨I.dfr, I.size, I.frm, fun t lv h => ((I.tmp t lv h).kp kp).upd (f1 t lv h), ?_, ?_, ?_, I.out, ?_⟩
  · intro k1 e1 hk1
    rcases hl k1 e1 hk1 with ⟨rfl, rfl⟩ | ⟨h1, h2, h3⟩
    · have hE := (I.ent k e1 hk).step kp (ρ' := upd ρ k1 (ρ k)) (fun _ _ => rfl) (by by_cases hkk : k = k1 <;> simp [upd, hkk]) (kc k e1 hk)
      cases e1 with
      | box cells => obtain ⟨b, T, cur, h1, h2⟩ := hE; exact ⟨b, T, cur, by rw [upd_at]; by_cases hkk : k = k1 <;> simp_all [upd], h2⟩
      | row n T l => obtain ⟨hz, xs, vals, h1, h2⟩ := hE; exact ⟨hz, xs, vals, by rw [upd_at]; by_cases hkk : k = k1 <;> simp_all [upd], h2⟩
      | map kk es => obtain ⟨r, en, cl, h1, h2⟩ := hE; exact ⟨r, en, cl, by rw [upd_at]; by_cases hkk : k = k1 <;> simp_all [upd], h2⟩
      | rowl T cells => obtain ⟨xs, h1, h2⟩ := hE; exact ⟨xs, by rw [upd_at]; by_cases hkk : k = k1 <;> simp_all [upd], h2⟩
    · exact (I.ent k1 e1 h3).step kp (fun _ _ => rfl) (upd_ne _ _ h1) (kc k1 e1 h3)
  · intro k1 e1 b hk1 hb
    rcases hl k1 e1 hk1 with ⟨rfl, rfl⟩ | ⟨h1, h2, h3⟩
    · rw [upd_at] at hb; exact I.new k e1 b hk hb
    · rw [upd_ne _ _ h1] at hb; exact I.new k1 e1 b h3 hb
  · intro k1 k2 e1 e2 b h1 h2 hb1 hb2
    rcases hl k1 e1 h1 with ⟨rfl, rfl⟩ | ⟨g1, g2, g3⟩ <;> rcases hl k2 e2 h2 with ⟨rfl, rfl⟩ | ⟨q1, q2, q3⟩
    · rfl
    · rw [upd_at] at hb1; rw [upd_ne _ _ q1] at hb2
      exact absurd (I.sep k2 k _ _ b q3 hk hb2 hb1) q2
    · rw [upd_at] at hb2; rw [upd_ne _ _ g1] at hb1
      exact absurd (I.sep k1 k _ _ b g3 hk hb1 hb2) g2
    · rw [upd_ne _ _ g1] at hb1; rw [upd_ne _ _ q1] at hb2
      exact I.sep k1 k2 e1 e2 b g3 q3 hb1 hb2
  · intro k1 v hv
    by_cases h1 : k1 = d
    · subst h1; rw [hi] at hv; cases hv
    · rw [upd_ne _ _ h1]; exact I.inn k1 v hv

theorem free_rekey {σ : St} {k d : Nat} {e : Ent} (hf : σ.free d = true) : (∀ t lv, σ.t.lookup t = some lv → lv.mentions d = false) ∧ ∀ k1 e1, k1 ≠ d → (ins d e (dropH k σ.h)).lookup k1 = some e1 → e1.mentions d = false := by
  obtain ⟨f1, f2, f3⟩ := free_spec hf
  refine ⟨f1, fun k1 e1 h1 h => ?_⟩
  rw [lookup_ins, if_neg h1] at h
  exact f2 k1 e1 (dropH_lookup h).1

theorem ok_append (I : Iv Γ σ ρ a w) {o : Oper} {x y : Operand} {t e n by_ k d : Nat} {z : Value} {T : Nat} {l r : List SV} {K : St → Prop} (ho : o.op = .call { callee := .builtin .append, args := #[x, y], argTypes := #[t, t] })
    (hd : o.dst = some d) (hdn : d < Γ.n) (he : elOf Γ.P t = some (e, n)) (hz : zeroOf Γ.P e = some z) (hzn : z.cells.size = n) (hb : bytOf Γ.P e = some by_)
    (hx : σ.ev x = .own k) (hk : σ.h.lookup k = some (.row n T l)) (hT : T = e) (hf : σ.free d = true) (hi : Γ.inn d = none)
    (hy : σ.ev y = .sv (.sl n r)) (hr : r ≠ []) (h1 : ∀ s ∈ r, ((∃ c, s = .agg c) ∨ s.one = true)) (h63 : l.length + r.length ≤ maxLen) (hbytes : (l.length + r.length) * by_ ≤ 140737488355328)
    (hK : K ⟨(d, .own d) :: σ.t, ins d (.row n T (l ++ r)) (ins d (.row n T l) (dropH k σ.h))⟩) : XOk Γ a w o False K := by
  have hX : a.eval x = ρ k := by have := I.ev x; rw [hx] at this; exact this
  obtain ⟨f1, f2⟩ := free_rekey (k := k) (e := .row n T l) hf
  exact ok_append_at (σ := ⟨σ.t, ins d (.row n T l) (dropH k σ.h)⟩) (I.rekey hf hk hi) (k := d) ho hd hdn he hz hzn hb (by rw [upd_at]; exact hX) f1 (by rw [lookup_ins, if_pos rfl]) hT hi f2 hy hr h1 h63 hbytes hK

theorem Iv.begin (I : Iv Γ σ ρ a w) {k n T : Nat} (hn : 0 < n) (hf : σ.free k = true) (hi : Γ.inn k = none) : Iv Γ ⟨σ.t, ins k (.row n T []) σ.h⟩ (upd ρ k (.slice none 0 0)) a w := by
  obtain ⟨f1, f2, f3⟩ := free_spec hf
  refine I.heap (fun t lv h => .inl h) (.inr ⟨f1, fun k1 e1 _ => f2 k1 e1⟩) ⟨rfl, rfl, rfl, Nat.le_refl _⟩ (fun _ _ _ => rfl) (fun b hb => by simp [blk] at hb) (by rw [hi]; intro v h; cases h) ?_
  exact ⟨hn, [], fun _ => undef, by rw [upd_at]; exact World.ownsRow_nil w 0 T n, fun i s h => by simp at h⟩

theorem ok_append_nil (I : Iv Γ σ ρ a w) {o : Oper} {x y : Operand} {t e n by_ d : Nat} {z : Value} {r : List SV} {K : St → Prop} (ho : o.op = .call { callee := .builtin .append, args := #[x, y], argTypes := #[t, t] })
    (hd : o.dst = some d) (hdn : d < Γ.n) (he : elOf Γ.P t = some (e, n)) (hn : 0 < n) (hz : zeroOf Γ.P e = some z) (hzn : z.cells.size = n) (hb : bytOf Γ.P e = some by_)
    (hx : σ.ev x = .sv (.raw (.slice none 0 0))) (hf : σ.free d = true) (hi : Γ.inn d = none)
    (hy : σ.ev y = .sv (.sl n r)) (hr : r ≠ []) (h1 : ∀ s ∈ r, ((∃ c, s = .agg c) ∨ s.one = true)) (h63 : r.length ≤ maxLen) (hbytes : r.length * by_ ≤ 140737488355328)
    (hK : K ⟨(d, .own d) :: σ.t, ins d (.row n e r) (ins d (.row n e []) σ.h)⟩) : XOk Γ a w o False K := by
  obtain ⟨f1, f2, f3⟩ := free_spec hf
  refine ok_append_at (σ := ⟨σ.t, ins d (.row n e []) σ.h⟩) (I.begin (T := e) hn hf hi) (k := d) (l := []) ho hd hdn he hz hzn hb (by rw [upd_at]; exact ev_raw I hx) f1 (by rw [lookup_ins, if_pos rfl]) rfl hi (fun k1 e1 h1 h => ?_) hy hr h1 (by simpa using h63) (by simpa using hbytes) hK
  rw [lookup_ins, if_neg h1] at h
  exact f2 k1 e1 h

theorem ok_make (I : Iv Γ σ ρ a w) {o : Oper} {x y : Operand} {t e n by_ d m : Nat} {kl kc : IntKind} {z : Value} {s : SV} {K : St → Prop} (ho : o.op = .makeSlice t x y)
    (hd : o.dst = some d) (hdn : d < Γ.n) (he : elOf Γ.P t = some (e, n)) (hn : 0 < n) (hz : zeroOf Γ.P e = some z) (hzn : z.cells.size = n) (hb : bytOf Γ.P e = some by_)
    (hx : σ.ev x = .sv (.raw (.int kl m))) (hy : σ.ev y = .sv (.raw (.int kc m))) (hf : σ.free d = true) (hi : Γ.inn d = none)
    (hs : (z = .agg z.cells ∧ s = .agg (z.cells.toList.map .raw) ∧ z.cells.all (·.oneCell') = true) ∨ (z.oneCell' = true ∧ s = .raw z)) (h63 : m ≤ maxLen) (hbytes : by_ * m ≤ 281474976710656)
    (hK : K ⟨(d, .own d) :: σ.t, ins d (.row n e (List.replicate m s)) σ.h⟩) : XOk Γ a w o True K := by
  obtain ⟨hu, hsz⟩ := elOf_spec he
  unfold zeroOf at hz
  unfold szOf at hsz
  unfold bytOf at hb
  cases hinfo : Γ.P.info? e with
  | none => simp [hinfo] at hz
  | some i =>
    simp only [hinfo, Option.bind_some, Option.map_some, Option.some.injEq] at hz hsz hb
    obtain ⟨w', h2, h3, h4⟩ := run_make_full (P := Γ.P) w w.heap.size t e i z n hu hinfo hz hsz kl kc m (by rw [hb]; exact hbytes) h63 (Nat.le_refl _)
    have run : (execOp a.eval o).run Γ.P w = .ok (.value (.slice (some ⟨w.heap.size, 0, none⟩) m m)) w' := by
      simp [execOp, ho, ev_raw I hx, ev_raw I hy, h2]
    have hext : Ext w w' := ⟨h4.os, h4.tape, h4.output, h4.size, fun k hk => h4.block k hk (by simp)⟩
    unfold XOk oN
    rw [run]
    obtain ⟨f1, f2, f3⟩ := free_spec hf
    have hrep : ∀ O, Rep w' O s z := by
      intro O
      rcases hs with ⟨h5, h6, h7⟩ | ⟨_, h6⟩
      · obtain ⟨cs, hcs⟩ : ∃ cs, cs = z.cells := ⟨_, rfl⟩
        rw [← hcs] at h5 h6 h7
        rw [h6, h5]
        refine Rep.agg _ _ (by simp) (fun j u hu' => (Array.all_eq_true_iff_forall_mem.1 h7) u (Array.mem_of_getElem? hu')) (fun j q u hq hu' => ?_)
        have hu2 : cs.toList[j]? = some u := by simpa using hu'
        rw [List.getElem?_map, hu2] at hq
        simp at hq; subst hq; exact Rep.raw u
      · rw [h6]; exact Rep.raw z
    have I' := I.heap (t' := σ.t) (k := d) (e := .row n e (List.replicate m s)) (v' := .slice (some ⟨w.heap.size, 0, none⟩) m m) (w' := w') (fun t lv h => .inl h) (.inr ⟨f1, fun k1 e1 _ => f2 k1 e1⟩)
      ⟨h4.os, h4.tape, h4.output, h4.size⟩ (fun b hb _ => h4.block b hb (by simp)) (fun b hb => by
        have h5 := ownsRow_blk h3 hb
        exact ⟨h5.2, .inl h5.1⟩) (by rw [hi]; intro v h; cases h) (by
        refine ⟨hn, _, fun _ => z, by rw [upd_at, List.length_replicate]; exact ownsRow_base h3 (Nat.zero_le _), fun j q hq => ?_⟩
        have hjm : j < m := by have := (List.getElem?_eq_some_iff.1 hq).1; simpa using this
        rw [List.getElem?_replicate, if_pos hjm] at hq
        cases hq
        refine ⟨hrep _, hzn, fun jj u hu' => ?_⟩
        have hjz : jj < z.cells.size := (Array.getElem?_eq_some_iff.1 hu').1
        have hjj : jj < n := by omega
        have hlt : j * n + jj < m * n := by
          have : (j + 1) * n ≤ m * n := Nat.mul_le_mul_right _ hjm
          rw [Nat.add_mul] at this; omega
        have hmod : (j * n + jj) % z.cells.size = jj := by rw [hzn, Nat.mul_comm, Nat.mul_add_mod]; exact Nat.mod_eq_of_lt hjj
        have hzj : z.cells[jj]! = u := by
          have hlt2 : jj < z.cells.size := by omega
          rw [getElem!_pos z.cells jj hlt2]
          exact (Array.getElem?_eq_some_iff.1 hu').2
        simp [madeCells, hlt, hmod, hzj])
    have := I'.put (d := some d) (lv := .own d) (v := .slice (some ⟨w.heap.size, 0, none⟩) m m) (by simpa using hdn) (by show _ = _; rw [upd_at])
    refine ⟨_, hK, ⟨_, by rw [hd]; exact this⟩, fun _ => hext⟩

theorem row_view (I : Iv Γ σ ρ a w) {k n T : Nat} {l : List SV} (hk : σ.h.lookup k = some (.row n T l)) : Rep w (Own Γ (dropH k σ.h) ρ) (.sl n l) (ρ k) := by
  obtain ⟨hz, xs, vals, hown, hrep⟩ := I.ent k _ hk
  rcases hown.2 with ⟨h0, hn⟩ | ⟨g, cap, cur, h0, hbg, hcur, hnc, hcm, hcs, htake⟩
  · have : l = [] := List.eq_nil_of_length_eq_zero hn
    rw [h0, this]; exact Rep.nil _ _ _
  · by_cases hl : l.length = 0
    · have : l = [] := List.eq_nil_of_length_eq_zero hl
      rw [h0, this]; exact Rep.nil _ _ _
    · have hbk : blk (ρ k) = some g := by rw [h0]; rfl
      rw [h0]
      refine Rep.sl n l g 0 cap vals ?_ (by omega) hnc hz ?_ ?_ ?_
      · rintro (hO | ⟨k1, e1, hk1, hb1⟩)
        · have h1 := I.out g hO
          rcases (I.new k _ g hk hbk).1 with h | h
          · omega
          · exact h1.2 h
        · obtain ⟨h1, h2⟩ := dropH_lookup hk1
          exact h2 (I.sep k1 k e1 _ g h1 hk hb1 hbk)
      · exact fun i s hi => (hrep i s hi).1.kp (Own.sub fun k e h => (dropH_lookup h).1)
      · exact fun i hi => (hrep i _ (List.getElem?_eq_getElem hi)).2.1
      · intro i hi j u hu
        have h4 := (hrep i _ (List.getElem?_eq_getElem hi)).2.2 j u hu
        rw [h0] at hown
        have h5 := hown.cells (g := g) rfl (i * n + j) u h4
        rw [addr_add] at h5
        rw [Nat.zero_add] at h5 ⊢; exact h5

def fzT (k n : Nat) (l : List SV) (t : List (Nat × LV)) : List (Nat × LV) := t.map fun p => (p.1, match p.2 with | .own k' => if k' = k then .sv (.sl n l) else .own k' | .eptr k' _ _ _ => if k' = k then .dead else p.2 | lv => lv)
theorem fzT_lookup {k n t : Nat} {l : List SV} {lv : LV} : ∀ {ts : List (Nat × LV)}, (fzT k n l ts).lookup t = some lv → ts.lookup t = some lv ∨ (ts.lookup t = some (.own k) ∧ lv = .sv (.sl n l)) ∨ lv = .dead
  | [], h => by simp [fzT] at h
  | (t', lv') :: ts, h => by
    simp only [fzT, List.map_cons, List.lookup_cons] at h ⊢
    by_cases ht : t = t'
    · subst ht
      simp only [BEq.rfl, Option.some.injEq] at h ⊢
      subst h
      split
      · rename_i k'
        by_cases hk : k' = k
        · subst hk; simp
        · simp [hk]
      · split
        · exact .inr (.inr rfl)
        · exact .inl rfl
      · exact .inl rfl
    · have : (t == t') = false := by simpa using ht
      simp only [this] at h ⊢
      exact fzT_lookup h

theorem Iv.freeze (I : Iv Γ σ ρ a w) {k n T : Nat} {l : List SV} (hk : σ.h.lookup k = some (.row n T l)) : Iv Γ ⟨fzT k n l σ.t, dropH k σ.h⟩ ρ a w := by
  have hv := row_view I hk
  have J : Iv Γ ⟨σ.t, dropH k σ.h⟩ ρ a w := I.sub (fun _ _ h => h) fun k e h => (dropH_lookup h).1
  refine ⟨J.dfr, J.size, J.frm, ?_, J.ent, J.new, J.sep, J.out, J.inn⟩
  intro t lv h
  rcases fzT_lookup h with h' | ⟨h', rfl⟩ | rfl
  · exact J.tmp t lv h'
  · have h1 : a.tmps.getD t undef = ρ k := I.tmp t _ h'
    rw [h1]; exact hv
  · exact trivial
end
end Go.Abs

/- Code over plain values: what a call asks, a region in a row, branches, blocks, loops, a whole function. No condition. -/
namespace Go.Abs
open Go Go.RowKit Go.Eager

def PFn (P : Program) (f : FuncId) (args : List SV) (r : SV) : Prop :=
  ∀ (w : World) (O : Nat → Prop) (vs : Array Value), (∀ b, O b → b < w.heap.size) → vs.size = args.length →
    (∀ (i : Nat) (s : SV) (u : Value), args[i]? = some s → vs[i]? = some u → Rep w O s u) →
    Calls P f vs w fun e w' => ∃ v, e = .returned v ∧ Ext w w' ∧ Rep w' O r v

def SV.scal : SV → Bool
  | .raw _ => true
  | .tup l => l.all fun | .raw _ => true | _ => false
  | _ => false

theorem Rep.scal {w w' : World} {O O' : Nat → Prop} {s : SV} {v : Value} (h : Rep w O s v) (h1 : s.scal = true) : Rep w' O' s v := by
  cases h with
  | raw v => exact .raw v
  | tup l vs hn hr =>
    refine .tup l vs hn fun i s u hs hu => ?_
    have h2 := List.all_eq_true.1 h1 s (List.mem_of_getElem? hs)
    have h3 := hr i s u hs hu
    cases s <;> simp at h2
    cases h3; exact .raw _
  | _ => simp [SV.scal] at h1

def lend (h : List (Nat × Ent)) : LV → Option SV
  | .sv s => some s
  | .own k => (match h.lookup k with | some (.row n _ l) => some (.sl n l) | _ => none)
  | .ptr k 0 => (match h.lookup k with | some (.box c) => (match svs c with | some (s :: l) => some (.ptr (.agg (s :: l))) | _ => none) | _ => none)
  | _ => none
def lends (h : List (Nat × Ent)) : List LV → Option (List SV)
  | [] => some []
  | lv :: l => match lend h lv, lends h l with | some s, some t => some (s :: t) | _, _ => none
def allSv : List LV → Bool
  | [] => true
  | .sv _ :: l => allSv l
  | _ :: _ => false

section
variable {Γ : Ctx} {σ : St} {ρ : Nat → Value} {a : Act} {w : World}

theorem box_view (I : Iv Γ σ ρ a w) {k : Nat} {c : List LV} {l : List SV} (hk : σ.h.lookup k = some (.box c)) (hl : svs c = some l) (hpos : l ≠ []) : Rep w Γ.O (.ptr (.agg l)) (ρ k) := by
  obtain ⟨b, T, cur, hr, hcur, hsz, hc⟩ := I.ent k _ hk
  have hcl := svs_spec hl
  have kp : Kp w (Own Γ σ.h ρ) w Γ.O := fun b _ h => ⟨rfl, fun hO => h (.inl hO)⟩
  have hbk : blk (ρ k) = some b := by rw [hr]; rfl
  rw [hr]
  have hlen : cur.size = l.length := by rw [hsz, hcl]; simp
  refine Rep.ptr (.agg l) b 0 (.agg cur) ?_ (Rep.agg l cur hlen (fun i u hu => ?_) (fun i s u hs hu => ?_)) ?_ ?_
  · intro hO
    have h1 := I.out b hO
    rcases (I.new k _ b hk hbk).1 with h | h
    · omega
    · exact h1.2 h
  · have hlt : i < c.length := by rw [← hsz]; exact (Array.getElem?_eq_some_iff.1 hu).1
    exact (hc i _ u (List.getElem?_eq_getElem hlt) hu).2
  · have h1 : c[i]? = some (.sv s) := by rw [hcl, List.getElem?_map, hs]; rfl
    exact Rep.kp (hc i _ u h1 hu).1 kp
  · simp only [Value.cells]
    have : 0 < l.length := List.length_pos_iff.2 hpos
    omega
  · intro j u hu
    rw [cell_of_row w b (0 + j) cur T (0, 0) hcur, Nat.zero_add]; exact hu

theorem row_view0 (I : Iv Γ σ ρ a w) {k n T : Nat} {l : List SV} (hk : σ.h.lookup k = some (.row n T l)) : Rep w Γ.O (.sl n l) (ρ k) :=
  Rep.kp (row_view I hk) fun _ _ h => ⟨rfl, fun hO => h (.inl hO)⟩

theorem lend_rep (I : Iv Γ σ ρ a w) {lv : LV} {s : SV} {v : Value} (hv : LRep w (Own Γ σ.h ρ) ρ lv v) (h : lend σ.h lv = some s) : Rep w Γ.O s v := by
  unfold lend at h
  split at h
  · cases h; exact Rep.kp hv fun _ _ h => ⟨rfl, fun hO => h (.inl hO)⟩
  · split at h
    · rename_i hk
      cases h
      rw [show v = _ from hv]; exact row_view0 I hk
    · cases h
  · split at h
    · rename_i hk
      split at h
      · rename_i hc
        cases h
        obtain ⟨b, h1, h2⟩ := hv
        have h3 := box_view I hk hc (by simp)
        rw [h2, ← h1]; exact h3
      · cases h
    · cases h
  · cases h

theorem lends_spec : ∀ {ls : List LV} {as : List SV}, lends σ.h ls = some as → as.length = ls.length ∧ ∀ (i : Nat) (s : SV), as[i]? = some s → ∃ lv, ls[i]? = some lv ∧ lend σ.h lv = some s
  | [], as, h => by simp [lends] at h; subst h; simp
  | lv :: ls, as, h => by
    unfold lends at h
    split at h
    · rename_i s t h1 h2
      cases h
      obtain ⟨h3, h4⟩ := lends_spec h2
      refine ⟨by simp [h3], fun i s' hi => ?_⟩
      cases i with
      | zero => simp at hi; subst hi; exact ⟨lv, by simp, h1⟩
      | succ i => simpa using h4 i s' (by simpa using hi)
    · cases h

theorem allSv_lends : ∀ {ls : List LV} {as : List SV}, allSv ls = true → lends σ.h ls = some as → ls = as.map LV.sv
  | [], as, _, h => by simp [lends] at h; subst h; rfl
  | lv :: ls, as, h1, h => by
    cases lv <;> simp [allSv] at h1
    unfold lends at h
    simp only [lend] at h
    split at h
    · rename_i s' t h2 h3
      cases h
      cases h2
      rw [allSv_lends h1 h3]; rfl
    · cases h

theorem run_callFunc {P : Program} {f : FuncId} {fn : Func} {args : Array Value} {w : World} (hf : P.funcs[f]? = some fn) (hname : (fn.name == "runtime.NumGoroutine") = false) (hb : fn.body.isNone = false) : (callFunc f args).run P w = .ok (.enter f args) w := by
  unfold callFunc
  rw [Sem.run_bind]
  show (Result.andThen (.ok P w) _) = _
  simp only [Result.andThen_ok, hf]
  rw [if_neg (by rw [hname]; decide), if_neg (by rw [hb]; decide)]
  rfl

theorem ok_call (I : Iv Γ σ ρ a w) {o : Oper} {f : FuncId} {fn : Func} {args : Array Operand} {ts : Array TypeId} {as : List SV} {r : SV} {K : St → Prop}
    {y : Operand} (ho : o.op = .call { callee := .value y, args := args, argTypes := ts }) (hy : σ.ev y = .sv (.raw (.func (.func f) #[] #[]))) (hdn : dstOk Γ o = true) (hf : Γ.P.funcs[f]? = some fn) (hname : (fn.name == "runtime.NumGoroutine") = false) (hb : fn.body.isNone = false)
    (ha : lends σ.h (args.toList.map σ.ev) = some as) (hr : (allSv (args.toList.map σ.ev) || r.scal) = true) (hc : PFn Γ.P f as r) (hk : K (σ.put o.dst (.sv r))) : XOk Γ a w o True K := by
  obtain ⟨hl, hs⟩ := lends_spec ha
  have hrun : (execOp a.eval o).run Γ.P w = .ok (.enter f (args.map a.eval)) w := by
    have hY : a.eval y = .func (.func f) #[] #[] := ev_raw I hy
    simp [execOp, ho, resolve, hY, Deferred.ofValue, invoke, run_callFunc hf hname hb]
  have hsz : (args.map a.eval).size = as.length := by rw [hl]; simp
  have hget : ∀ (i : Nat) (s : SV) (u : Value), as[i]? = some s → (args.map a.eval)[i]? = some u → ∃ x, args.toList[i]? = some x ∧ u = a.eval x ∧ lend σ.h (σ.ev x) = some s := by
    intro i s u hi hu
    obtain ⟨lv, h1, h2⟩ := hs i s hi
    rw [List.getElem?_map] at h1
    rw [Array.getElem?_map] at hu
    cases hx : args[i]? with
    | none => simp [hx] at hu
    | some x =>
      have hx' : args.toList[i]? = some x := by simpa using hx
      simp only [hx', Option.map_some, Option.some.injEq] at h1
      simp only [hx, Option.map_some, Option.some.injEq] at hu
      subst h1
      exact ⟨x, hx', hu.symm, h2⟩
  unfold XOk oN
  rw [hrun]
  by_cases hall : allSv (args.toList.map σ.ev) = true
  · have heq := allSv_lends hall ha
    refine (hc w (Own Γ σ.h ρ) (args.map a.eval) (fun b hb => blk_lt I hb) hsz fun i s u hi hu => ?_).mono ?_
    · obtain ⟨x, hx, rfl, h2⟩ := hget i s u hi hu
      have h3 : (args.toList.map σ.ev)[i]? = some (.sv s) := by rw [heq, List.getElem?_map, hi]; rfl
      rw [List.getElem?_map, hx] at h3
      simp only [Option.map_some, Option.some.injEq] at h3
      have := I.ev x
      rw [h3] at this
      exact this
    · rintro e w' ⟨v, he, hx, hv⟩
      exact ⟨v, he, _, hk, ⟨ρ, (I.ext hx).put (dstOk_spec hdn) hv⟩, fun _ => hx⟩
  · have hsc : r.scal = true := by simpa [hall] using hr
    refine (hc w Γ.O (args.map a.eval) (fun b hb => blk_lt I (.inl hb)) hsz fun i s u hi hu => ?_).mono ?_
    · obtain ⟨x, hx, rfl, h2⟩ := hget i s u hi hu
      exact lend_rep I (I.ev x) h2
    · rintro e w' ⟨v, he, hx, hv⟩
      exact ⟨v, he, _, hk, ⟨ρ, (I.ext hx).put (dstOk_spec hdn) (Rep.scal hv hsc)⟩, fun _ => hx⟩
end

def Ok (Γ : Ctx) (c : Code) (σ : St) (Q : Exit → St → Prop) : Prop :=
  ∀ a w, Inv Γ σ a w → c.wp Γ.P (fun e a' w' => ∃ σ', Q e σ' ∧ Inv Γ σ' a' w') a w

def Le (Γ : Ctx) (σ' σ : St) : Prop := ∀ a w, Inv Γ σ a w → Inv Γ σ' a w

section
variable {Γ : Ctx} {σ : St} {Q : Exit → St → Prop}

theorem Ok.le {c : Code} {σ' : St} (hl : Le Γ σ' σ) (h : Ok Γ c σ' Q) : Ok Γ c σ Q := fun a w I => h a w (hl a w I)
theorem Ok.mono {c : Code} {Q' : Exit → St → Prop} (h : Ok Γ c σ Q) (hq : ∀ e σ, Q e σ → Q' e σ) : Ok Γ c σ Q' :=
  fun a w I => wp_mono (h a w I) fun _ _ _ ⟨σ', h1, h2⟩ => ⟨σ', hq _ _ h1, h2⟩
theorem ok_skip (h : Q .normal σ) : Ok Γ .skip σ Q := fun _ _ I => wp_skip ⟨σ, h, I⟩
theorem ok_ret (h : Q .ret σ) : Ok Γ .ret σ Q := fun _ _ I => wp_ret ⟨σ, h, I⟩
theorem ok_exit {id : Nat} (h : Q (.exit id) σ) : Ok Γ (.exit id) σ Q := fun _ _ I => wp_exit ⟨σ, h, I⟩

def thenQ (K : St → Prop) (Q : Exit → St → Prop) : Exit → St → Prop
  | .normal, σ => K σ
  | e, σ => Q e σ
theorem ok_seq {x y : Code} (h : ∀ K : St → Prop, (∀ σ', Ok Γ y σ' Q → K σ') → Ok Γ x σ (thenQ K Q)) : Ok Γ (.seq x y) σ Q := by
  intro a w I
  refine wp_seq (wp_mono (h (fun σ' => Ok Γ y σ' Q) (fun _ h => h) a w I) ?_)
  rintro e a' w' ⟨σ', h1, h2⟩
  cases e with
  | normal => exact h1 a' w' h2
  | _ => exact ⟨σ', h1, h2⟩

theorem ok_last {x : Code} (h : ∀ K : St → Prop, (∀ σ', Q .normal σ' → K σ') → Ok Γ x σ (thenQ K Q)) : Ok Γ x σ Q :=
  (h (Q .normal) fun _ h => h).mono fun e _ hq => by cases e <;> exact hq
theorem ok_seq_join {ι : Type} (F : ι → St) (J : ι → Prop) {x y : Code} (h1 : Ok Γ x σ (thenQ (fun σ' => ∃ i, J i ∧ Le Γ (F i) σ') Q)) (h2 : ∀ i, J i → Ok Γ y (F i) Q) : Ok Γ (.seq x y) σ Q :=
  ok_seq fun _ hK => h1.mono fun e _ hq => by
    cases e with
    | normal => obtain ⟨i, hj, hl⟩ := hq; exact hK _ ((h2 i hj).le hl)
    | _ => exact hq

theorem ok_cond {c : Operand} {x y : Code} {t : Bool} (hc : σ.ev c = .sv (.raw (.bool t))) (h1 : t = true → Ok Γ x σ Q) (h2 : t = false → Ok Γ y σ Q) : Ok Γ (.cond c x y) σ Q := by
  rintro a w ⟨ρ, I⟩
  refine wp_cond (ev_raw I hc) ?_
  cases t
  · exact h2 rfl a w ⟨ρ, I⟩
  · exact h1 rfl a w ⟨ρ, I⟩

def blkQ (id : Nat) (Q : Exit → St → Prop) : Exit → St → Prop
  | .exit id', σ => if id' = id then Q .normal σ else Q (.exit id') σ
  | e, σ => Q e σ
theorem ok_block {id : Nat} {c : Code} (h : Ok Γ c σ (blkQ id Q)) : Ok Γ (.block id c) σ Q := by
  intro a w I
  refine wp_block (wp_mono (h a w I) ?_)
  rintro e a' w' ⟨σ', h1, h2⟩
  cases e with
  | exit id' =>
    simp only [Exit.inBlock, blkQ] at h1 ⊢
    split
    · rename_i hid; rw [if_pos hid] at h1; exact ⟨σ', h1, h2⟩
    · rename_i hid; rw [if_neg hid] at h1; exact ⟨σ', h1, h2⟩
  | _ => exact ⟨σ', h1, h2⟩

theorem ok_loop {ι : Type} (F : ι → St) (J : ι → Prop) (μ : ι → Nat) (i0 : ι) {c : Code} (hj0 : J i0) (h0 : Le Γ (F i0) σ) (round : ∀ i, J i → Ok Γ c (F i) (thenQ (fun σ' => ∃ j, μ j < μ i ∧ J j ∧ Le Γ (F j) σ') Q)) : Ok Γ (.loop c) σ Q := by
  intro a w I
  refine wp_loop_ghost (fun n a w => ∃ i, μ i = n ∧ J i ∧ Inv Γ (F i) a w) (μ i0) ⟨i0, rfl, hj0, h0 a w I⟩ ?_
  rintro n a w ⟨i, rfl, hJ, I⟩
  refine wp_mono (round i hJ a w I) ?_
  rintro e a' w' ⟨σ', h1, h2⟩
  cases e with
  | normal =>
    obtain ⟨j, hj, hJ', hl⟩ := h1
    exact ⟨μ j, hj, j, rfl, hJ', hl a' w' h2⟩
  | _ => exact ⟨σ', h1, h2⟩

def endQ (rs : List Operand) (R : List SV → Prop) : Exit → St → Prop
  | .normal, σ | .ret, σ => ∃ l, lends σ.h (rs.map σ.ev) = some l ∧ R l
  | _, _ => False

def resOps : List ResultVar → Option (List Operand)
  | [] => some []
  | .tmp t :: l => (resOps l).map (.tmp t :: ·)
  | _ => none
def tupSV : List SV → SV
  | [s] => s
  | l => .tup l

theorem run_results {fn : Func} {rs : List Operand} (h : resOps fn.results.toList = some rs) (a : Act) (P : Program) (w : World) :
    ∃ vs : Array Value, vs.toList = rs.map a.eval ∧ (results fn a.tmps).run P w = .ok (if h : vs.size = 1 then vs[0] else .tuple vs) w := by
  have key : ∀ (F : ResultVar → Sem Value) (_ : ∀ t, F (.tmp t) = pure (a.tmps.getD t undef)) (l : List ResultVar) (rs : List Operand) (acc : Array Value), resOps l = some rs →
      (List.foldlM (fun (bs : Array Value) r => bs.push <$> F r) acc l : Sem (Array Value)).run P w = .ok (acc ++ (rs.map a.eval).toArray) w := by
    intro F hF l
    induction l with
    | nil => intro rs acc h; simp [resOps] at h; subst h; simp
    | cons r l ih =>
      intro rs acc h
      cases r with
      | tmp t =>
        simp only [resOps] at h
        cases hr : resOps l with
        | none => simp [hr] at h
        | some rs' =>
          simp [hr] at h; subst h
          have := ih rs' (acc.push (a.tmps.getD t undef)) hr
          simp only [List.foldlM_cons, Sem.run_bind]
          rw [hF]
          simp at this ⊢
          rw [this]
          simp [Act.eval]
      | cell q t => simp [resOps] at h
  refine ⟨(rs.map a.eval).toArray, by simp, ?_⟩
  unfold results
  rw [Array.mapM_eq_foldlM, ← Array.foldlM_toList]
  simp only [Sem.run_bind]
  rw [key _ (fun _ => rfl) fn.results.toList rs #[] h]
  simp

theorem tup_rep {w : World} {O : Nat → Prop} {l : List SV} {vs : Array Value} (hn : vs.size = l.length) (h : ∀ (i : Nat) (s : SV) (u : Value), l[i]? = some s → vs[i]? = some u → Rep w O s u) : Rep w O (tupSV l) (if h : vs.size = 1 then vs[0] else .tuple vs) := by
  match l, hn, h with
  | [s], hn, h =>
    have h1 : vs.size = 1 := by simpa using hn
    rw [dif_pos h1]
    exact h 0 s _ (by simp) (by simp [h1])
  | [], hn, h =>
    rw [dif_neg (by simp at hn; simp [hn])]
    exact Rep.tup _ _ hn h
  | s :: t :: l, hn, h =>
    rw [dif_neg (by simp at hn; omega)]
    exact Rep.tup _ _ hn h

theorem fn_ok_at {P : Program} {f : FuncId} {fn : Func} {c : Code} {rs : List Operand} {args : List SV} {r : SV} (hf : P.funcs[f]? = some fn) (hb : fn.body = some c) (hrs : resOps fn.results.toList = some rs) (hn : args.length ≤ fn.ntmps)
    (w : World) (O : Nat → Prop) (h : Ok { P := P, w0 := w, O := O, M := fun _ => False, inn := fun _ => none, n := fn.ntmps } c ⟨args.zipIdx.map fun p => (p.2, .sv p.1), []⟩ (endQ rs fun l => tupSV l = r)) (vs : Array Value) (hO : ∀ b, O b → b < w.heap.size) (hvs : vs.size = args.length)
    (hrep : ∀ (i : Nat) (s : SV) (u : Value), args[i]? = some s → vs[i]? = some u → Rep w O s u) : Calls P f vs w fun e w' => ∃ v, e = .returned v ∧ Ext w w' ∧ Rep w' O r v := by
  refine calls_of_wp hf hb ?_
  let Γ : Ctx := { P := P, w0 := w, O := O, M := fun _ => False, inn := fun _ => none, n := fn.ntmps }
  have hlk : ∀ (l : List SV) (k t : Nat) (lv : LV), ((l.zipIdx k).map fun p => (p.2, LV.sv p.1)).lookup t = some lv → ∃ s, l[t - k]? = some s ∧ lv = .sv s ∧ k ≤ t := by
    intro l
    induction l with
    | nil => intro k t lv h; simp at h
    | cons s l ih =>
      intro k t lv h
      simp only [List.zipIdx_cons, List.map_cons, List.lookup_cons] at h
      by_cases ht : t = k
      · subst ht; simp at h; exact ⟨s, by simp, h.symm, Nat.le_refl _⟩
      · have : (t == k) = false := by simpa using ht
        simp only [this] at h
        obtain ⟨s', h1, h2, h3⟩ := ih (k + 1) t lv h
        refine ⟨s', ?_, h2, by omega⟩
        rw [show t - k = (t - (k + 1)) + 1 by omega]; simpa using h1
  have I : Inv Γ ⟨args.zipIdx.map fun p => (p.2, .sv p.1), []⟩ { tmps := vs ++ Array.replicate (fn.ntmps - vs.size) undef, defers := [] } w := by
    refine ⟨fun _ => undef, ⟨rfl, by simp [Γ]; omega, ⟨rfl, rfl, rfl, Nat.le_refl _, fun _ _ _ => rfl⟩, ?_, ?_, ?_, ?_, fun b hb => ⟨hO b hb, fun h => h⟩, ?_⟩⟩
    · intro t lv ht
      obtain ⟨s, h1, rfl, _⟩ := hlk args 0 t lv ht
      have hlt : t < vs.size := by rw [hvs]; simpa using (List.getElem?_eq_some_iff.1 h1).1
      have hu : vs[t]? = some vs[t] := Array.getElem?_eq_getElem hlt
      have h2 := hrep t s _ (by simpa using h1) hu
      have h3 : (vs ++ Array.replicate (fn.ntmps - vs.size) undef).getD t undef = vs[t] := by
        rw [Array.getD_eq_getD_getElem?, Array.getElem?_append_left hlt, hu]; rfl
      show Rep w _ s _
      rw [h3]
      exact Rep.kp h2 fun b _ hno => ⟨rfl, fun h => by
        rcases h with h | ⟨k, e, hk, _⟩
        · exact hno h
        · simp at hk⟩
    · intro k e hk; simp at hk
    · intro k e b hk; simp at hk
    · intro k k' e e' b hk; simp at hk
    · intro k v hv; simp [Γ] at hv
  refine wp_mono (h _ w I) ?_
  rintro e a' w' ⟨σ', hq, ρ, J⟩
  have fin : (∃ l, lends σ'.h (rs.map σ'.ev) = some l ∧ tupSV l = r) → a'.defers = [] ∧ ∃ v, (results fn a'.tmps).run P w' = .ok v w' ∧ ∃ v', Ending.returned v = .returned v' ∧ Ext w w' ∧ Rep w' O r v' := by
    rintro ⟨l, hl, rfl⟩
    obtain ⟨vs', hv1, hv2⟩ := run_results hrs a' P w'
    obtain ⟨hl1, hl2⟩ := lends_spec hl
    refine ⟨J.dfr, _, hv2, _, rfl, ?_, tup_rep ?_ ?_⟩
    · exact ⟨J.frm.os, J.frm.tape, J.frm.output, J.frm.size, fun b hb => J.frm.block b hb (fun h => h)⟩
    · have := congrArg List.length hv1; simp at this; simp at hl1; omega
    · intro i s u hi hu
      obtain ⟨lv, h1, h2⟩ := hl2 i s hi
      have hu' : vs'.toList[i]? = some u := by simpa using hu
      rw [hv1] at hu'
      rw [List.getElem?_map] at h1 hu'
      cases hx : rs[i]? with
      | none => simp [hx] at h1
      | some x =>
        simp only [hx, Option.map_some, Option.some.injEq] at h1 hu'
        subst h1 hu'
        exact lend_rep J (J.ev x) h2
  cases e with
  | normal => exact fin hq
  | ret => exact fin hq
  | _ => exact hq.elim
end
end Go.Abs

/- A region, operation by operation, over plain values. No condition. -/
namespace Go.Abs
open Go Go.RowKit Go.Eager

def wpP (P : Program) (ops : Array Oper) (Q : Act → World → Prop) : List (Oper × Nat) → Act → World → Prop
  | [], a, w => Q a w
  | (o, c) :: l, a, w =>
    if c ≤ 1 then ∃ v, Stands P ops c o a w v ∧ wpP P ops Q l (a.put o.dst v) w
    else if Region.wanted o (yielded ops a.tmps) then oN P o a w (fun v w' => (c ≠ 2 → Ext w w') ∧ wpP P ops Q l (a.put o.dst v) w') else wpP P ops Q l (a.put o.dst undef) w

def pairs (ops : Array Oper) (cl : List Nat) : List Nat → Option (List (Oper × Nat))
  | [] => some []
  | i :: s => match ops[i]?, pairs ops cl s with | some o, some l => some ((o, cl.getD i 2) :: l) | _, _ => none

theorem wpE_of_wpP {P : Program} {ops : Array Oper} {Q : Act → World → Prop} {cl : List Nat} : ∀ {s : List Nat} {l : List (Oper × Nat)} {a : Act} {w : World}, pairs ops cl s = some l → wpP P ops Q l a w → wpE P ops (fun i => cl.getD i 2) Q s a w
  | [], l, a, w, hp, h => by simp [pairs] at hp; subst hp; exact h
  | i :: s, l, a, w, hp, h => by
    unfold pairs at hp
    split at hp
    · rename_i o l' ho hl
      cases hp
      unfold wpE
      simp only [ho]
      unfold wpP at h
      by_cases hc : cl.getD i 2 ≤ 1
      · rw [if_pos hc] at h ⊢
        obtain ⟨v, h1, h2⟩ := h
        exact ⟨v, h1, wpE_of_wpP hl h2⟩
      · rw [if_neg hc] at h ⊢
        unfold opN
        simp only [ho]
        split
        · rename_i hw; rw [if_pos hw] at h
          exact oN_mono (fun v w' hk => ⟨hk.1, wpE_of_wpP hl hk.2⟩) h
        · rename_i hw; rw [if_neg hw] at h
          exact wpE_of_wpP hl h
    · cases hp

theorem wpList_of_wpP {P : Program} {ops : Array Oper} {Q : Act → World → Prop} {Q' : Exit → Act → World → Prop} (hQ : ∀ a w, Q a w → Q' .normal a w) : ∀ (l : List Oper) (a : Act) (w : World), wpP P ops Q (l.map fun o => (o, 2)) a w → wpList P ops Q' l a w
  | [], a, w, h => hQ a w h
  | o :: l, a, w, h => by
    unfold wpList
    simp only [List.map_cons] at h
    unfold wpP at h
    rw [if_neg (by omega)] at h
    split
    · rename_i hw; rw [if_pos hw] at h
      exact .inl (oN_wp (oN_mono (fun v w' hk => wpList_of_wpP hQ l _ _ hk.2) h))
    · rename_i hw; rw [if_neg hw] at h
      exact wpList_of_wpP hQ l _ _ h

def RunL (Γ : Ctx) (ops : Array Oper) (l : List (Oper × Nat)) (σ : St) (K : St → Prop) : Prop :=
  l.all (fun p => dstOk Γ p.1) = true → ∀ a w, Inv Γ σ a w → wpP Γ.P ops (fun a' w' => ∃ σ', K σ' ∧ Inv Γ σ' a' w') l a w

section
variable {Γ : Ctx} {ops : Array Oper} {l : List (Oper × Nat)} {σ : St} {K : St → Prop} {Q : Exit → St → Prop} {c : Nat}

theorem drew_ext (w : World) : Ext w { w with drawn := w.drawn + 1 } := ⟨rfl, rfl, rfl, Nat.le_refl _, fun _ _ => rfl⟩
theorem Inv.drew {a : Act} {w : World} (h : Inv Γ σ a w) : Inv Γ σ a { w with drawn := w.drawn + 1 } := by
  obtain ⟨ρ, I⟩ := h; exact ⟨ρ, I.ext (drew_ext w)⟩

theorem ok_region {id : Nat} {L : List Oper} (hd : (L.map fun o => (o, 2)).all (fun p => dstOk Γ p.1) = true) (h : RunL Γ L.toArray (L.map fun o => (o, 2)) σ K) : Ok Γ (.region id L.toArray false) σ (thenQ K Q) :=
  fun _ _ I => wp_region_lit (wpList_of_wpP (fun _ _ ⟨σ', h1, h2⟩ => ⟨σ', h1, h2⟩) L _ _ (h hd _ _ I))

theorem ok_region_d {id : Nat} (cl : List Nat) (B : Array (List Nat)) (s : List Nat) (hm : Γ.P.follows .mixedOrders = true)
    (hc : (closedB ops B && Region.noSelect ops && (s.length == ops.size) && chk ops (fun i => cl.getD i 2) B s (Array.replicate ops.size false)) = true)
    (hl : pairs ops cl s = some l) (hd : l.all (fun p => dstOk Γ p.1) = true) (h : RunL Γ ops l σ K) : Ok Γ (.region id ops true) σ (thenQ K Q) :=
  fun a _ I => wp_region_eager (fun i => cl.getD i 2) B s hm hc (wpE_of_wpP hl (by
    have := h hd a _ I.drew
    exact this))

def clsOp : Op → Nat
  | .load _ _ => 1
  | .call { callee := .builtin .len, .. } => 0
  | .call { callee := .builtin .min, .. } => 0
  | .call { callee := .builtin .max, .. } => 0
  | .call { callee := .value _, .. } => 3
  | .alloc _ | .box _ _ | .buildSlice _ _ _ | .makeSlice _ _ _ | .makeMap _ _ | .lookup _ _ _ _ => 3
  | .move _ | .assign _ | .pick _ _ _ | .fieldAddr _ _ _ | .field _ _ _ | .unOp _ _ _ | .extract _ _ | .binOp _ _ _ _ _ | .convert _ _ _ | .nilCheck _ | .slice _ _ _ _ _ | .indexAddr _ _ _ | .index _ _ _ => 0
  | _ => 2
def addNew (s : List Nat) (m : Nat) : List Nat := if s.contains m then s else m :: s
def waits (L : List Oper) : Array (List Nat) := L.foldl (init := #[]) fun acc o => acc.push ((o.after.toList.filter fun e => Region.binds .any e).foldl (init := []) fun s e => if s.contains e.on then s else (acc.getD e.on []).foldl addNew (e.on :: s))
theorem pairs_range (L : List Oper) (cl : Nat → Nat) : ∀ (l : List Oper) (k : Nat), (∀ j, l[j]? = L[k + j]?) → ∀ (Q : Act → World → Prop) (P : Program) (a : Act) (w : World), (∀ j o, L[j]? = some o → cl j = clsOp o.op) →
    wpP P L.toArray Q (l.map fun o => (o, clsOp o.op)) a w → wpE P L.toArray cl Q (List.range' k l.length) a w
  | [], k, _, Q, P, a, w, _, h => h
  | o :: l, k, hl, Q, P, a, w, hcl, h => by
    have h0 : L[k]? = some o := by simpa using (hl 0).symm
    have hl' : ∀ j, l[j]? = L[k + 1 + j]? := fun j => by have := hl (j + 1); simpa [Nat.add_assoc, Nat.add_comm 1 j] using this
    have hc := hcl k o h0
    rw [List.length_cons, List.range'_succ]
    unfold wpE
    have h0' : L.toArray[k]? = some o := by simpa using h0
    simp only [h0']
    simp only [List.map_cons] at h
    unfold wpP at h
    by_cases h1 : cl k ≤ 1
    · rw [if_pos h1]
      rw [if_pos (by rw [← hc]; exact h1)] at h
      obtain ⟨v, h4, h5⟩ := h
      exact ⟨v, by rw [hc]; exact h4, pairs_range L cl l (k + 1) hl' Q P _ w hcl h5⟩
    · rw [if_neg h1]
      rw [if_neg (by rw [← hc]; exact h1)] at h
      unfold opN
      simp only [h0']
      split
      · rename_i hw; rw [if_pos hw] at h
        exact oN_mono (fun v w' hk => ⟨fun h2 => hk.1 (by rw [← hc]; exact h2), pairs_range L cl l (k + 1) hl' Q P _ _ hcl hk.2⟩) h
      · rename_i hw; rw [if_neg hw] at h
        exact pairs_range L cl l (k + 1) hl' Q P _ _ hcl h
theorem ok_region_i {id : Nat} {L : List Oper} (hm : Γ.P.follows .mixedOrders = true)
    (hc : (closedB L.toArray (waits L) && Region.noSelect L.toArray && chk L.toArray (fun i => match L[i]? with | some o => clsOp o.op | none => 2) (waits L) (List.range' 0 L.length) (Array.replicate L.length false)) = true)
    (hd : (L.map fun o => (o, clsOp o.op)).all (fun p => dstOk Γ p.1) = true) (h : RunL Γ L.toArray (L.map fun o => (o, clsOp o.op)) σ K) : Ok Γ (.region id L.toArray true) σ (thenQ K Q) :=
  fun a w I => wp_region_eager (fun i => match L[i]? with | some o => clsOp o.op | none => 2) (waits L) (List.range' 0 L.length) hm (by
    simp only [Bool.and_eq_true] at hc ⊢
    exact ⟨⟨⟨hc.1.1, hc.1.2⟩, by simp⟩, by simpa using hc.2⟩) (pairs_range L _ L 0 (by simp) _ _ a _ (fun j o ho => by simp [ho]) (h hd a _ I.drew))

theorem run_nil (h : K σ) : RunL Γ ops [] σ K := fun _ _ _ I => ⟨σ, h, I⟩

theorem wanted_none {o : Oper} (hg : o.guard = none) (t : Array Value) : Region.wanted o (yielded ops t) = true := by simp [Region.wanted, hg]

theorem run_pure {o : Oper} (hg : o.guard = none) (h : stepP Γ.P σ o.op fun lv => RunL Γ ops l (σ.put o.dst lv) K) : RunL Γ ops ((o, c) :: l) σ K := by
  intro hd a w ⟨ρ, I⟩
  simp only [List.all_cons, Bool.and_eq_true] at hd
  obtain ⟨lv, v, hk, hv, hrun⟩ := stepP_sound I h
  have I' : Inv Γ (σ.put o.dst lv) (a.put o.dst v) w := ⟨ρ, I.put (dstOk_spec hd.1) hv⟩
  unfold wpP
  split
  · exact ⟨v, .inl ⟨wanted_none hg _, fun w' _ => hrun w'⟩, hk hd.2 _ _ I'⟩
  · rw [if_pos (wanted_none hg _)]
    unfold oN
    rw [hrun w]
    exact ⟨fun _ => Ext.refl w, hk hd.2 _ _ I'⟩

theorem run_read {o : Oper} (hg : o.guard = none) (hc : c ≠ 0) (h : stepR Γ.P σ o.op fun lv => RunL Γ ops l (σ.put o.dst lv) K) : RunL Γ ops ((o, c) :: l) σ K := by
  intro hd a w ⟨ρ, I⟩
  simp only [List.all_cons, Bool.and_eq_true] at hd
  obtain ⟨lv, v, hk, hv, hrun⟩ := stepR_sound I h
  have I' : Inv Γ (σ.put o.dst lv) (a.put o.dst v) w := ⟨ρ, I.put (dstOk_spec hd.1) hv⟩
  unfold wpP
  split
  · exact ⟨v, .inl ⟨wanted_none hg _, fun w' hx => hrun w' (hx.resolve_left hc)⟩, hk hd.2 _ _ I'⟩
  · rw [if_pos (wanted_none hg _)]
    unfold oN
    rw [hrun w (Ext.refl w)]
    exact ⟨fun _ => Ext.refl w, hk hd.2 _ _ I'⟩

theorem run_x {o : Oper} {ext : Prop} (hg : o.guard = none) (hc : 1 < c) (he : c ≠ 2 → ext) (h : ∀ a w ρ, Iv Γ σ ρ a w → dstOk Γ o = true → XOk Γ a w o ext fun σ' => RunL Γ ops l σ' K) : RunL Γ ops ((o, c) :: l) σ K := by
  intro hd a w ⟨ρ, I⟩
  simp only [List.all_cons, Bool.and_eq_true] at hd
  have h1 := h a w ρ I hd.1
  unfold wpP
  rw [if_neg (by omega), if_pos (wanted_none hg _)]
  exact oN_mono (fun v w' ⟨σ', hk, hi, hx⟩ => ⟨fun h2 => hx (he h2), hk hd.2 _ _ hi⟩) h1

theorem run_guard {o : Oper} {g t : Nat} {want b : Bool} (hg : o.guard = some (g, want)) (hgd : (ops[g]?).bind (·.dst) = some t) (ht : σ.ev (.tmp t) = .sv (.raw (.bool b)))
    (h1 : b = want → RunL Γ ops (({ o with guard := none }, c) :: l) σ K) (h2 : b = !want → RunL Γ ops l (σ.put o.dst (.sv (.raw undef))) K) : RunL Γ ops ((o, c) :: l) σ K := by
  intro hd a w ⟨ρ, I⟩
  have hv : a.tmps.getD t undef = .bool b := ev_raw I ht
  have hv' : a.tmps[t]?.getD undef = .bool b := by rw [← Array.getD_eq_getD_getElem?]; exact hv
  have hv2 : a.tmps[t]? = some (.bool b) := by
    cases ht : a.tmps[t]? with
    | none => rw [ht] at hv'; simp [undef] at hv'
    | some u => rw [ht] at hv'; simp at hv'; rw [hv']
  have hw : Region.wanted o (yielded ops a.tmps) = (b == want) := by
    simp [Region.wanted, hg, yielded, hgd, hv2]
  have hex : ∀ a : Act, execOp a.eval { o with guard := none } = execOp a.eval o := fun a => rfl
  by_cases hb : b = want
  · have h3 := h1 hb (by simpa [dstOk] using hd) a w ⟨ρ, I⟩
    have hw' : Region.wanted o (yielded ops a.tmps) = true := by rw [hw, hb]; simp
    have hw2 : Region.wanted { o with guard := none } (yielded ops a.tmps) = true := wanted_none rfl _
    unfold wpP at h3 ⊢
    split
    · rename_i hc
      rw [if_pos hc] at h3
      obtain ⟨v, h4, h5⟩ := h3
      refine ⟨v, ?_, h5⟩
      rcases h4 with ⟨_, h4⟩ | ⟨h4, _⟩
      · exact .inl ⟨hw', h4⟩
      · rw [hw2] at h4; cases h4
    · rename_i hc
      rw [if_neg hc] at h3
      first
        | (rw [if_pos hw2] at h3; rw [if_pos hw']; exact h3)
        | (rw [if_pos hw']; exact h3)
        | exact h3
  · simp only [List.all_cons, Bool.and_eq_true] at hd
    have hb' : b = !want := by cases b <;> cases want <;> simp_all
    have h3 := h2 hb' hd.2 (a.put o.dst undef) w ⟨ρ, I.put (dstOk_spec hd.1) (Rep.raw undef)⟩
    have hw' : Region.wanted o (yielded ops a.tmps) = false := by rw [hw]; simpa using hb
    unfold wpP
    split
    · exact ⟨undef, .inr ⟨hw', rfl⟩, h3⟩
    · rw [if_neg (by rw [hw']; simp)]; exact h3

theorem run_guard_undef {o : Oper} {g t : Nat} {want : Bool} (hg : o.guard = some (g, want)) (hgd : (ops[g]?).bind (·.dst) = some t) (ht : σ.ev (.tmp t) = .sv (.raw undef)) (h2 : RunL Γ ops l (σ.put o.dst (.sv (.raw undef))) K) : RunL Γ ops ((o, c) :: l) σ K := by
  intro hd a w ⟨ρ, I⟩
  have hv : a.tmps.getD t undef = undef := ev_raw I ht
  have hw : Region.wanted o (yielded ops a.tmps) = false := by
    have hv' : a.tmps[t]?.getD undef = undef := by rw [← Array.getD_eq_getD_getElem?]; exact hv
    cases hs : a.tmps[t]? with
    | none => simp [Region.wanted, hg, yielded, hgd, hs]
    | some u => rw [hs] at hv'; simp at hv'; simp [Region.wanted, hg, yielded, hgd, hs, hv', undef]
  simp only [List.all_cons, Bool.and_eq_true] at hd
  have h3 := h2 hd.2 (a.put o.dst undef) w ⟨ρ, I.put (dstOk_spec hd.1) (Rep.raw undef)⟩
  unfold wpP
  split
  · exact ⟨undef, .inr ⟨hw, rfl⟩, h3⟩
  · rw [if_neg (by rw [hw]; simp)]; exact h3
end

section
variable {Γ : Ctx} {ops : Array Oper} {l : List (Oper × Nat)} {t : List (Nat × LV)} {h : List (Nat × Ent)} {K : St → Prop} {c d ty : Nat} {ps : String} {af : Array Edge} {x y : Operand}

theorem q_mv (s : SV) (hx : St.ev ⟨t, h⟩ x = .sv s) (hk : RunL Γ ops l ⟨(d, .sv s) :: t, h⟩ K) : RunL Γ ops ((⟨some d, .move x, ty, ps, af, none⟩, c) :: l) ⟨t, h⟩ K :=
  run_pure rfl (by show RunL Γ ops l ⟨(d, St.ev ⟨t, h⟩ x) :: t, h⟩ K; rw [hx]; exact hk)
theorem q_as (s : SV) (hx : St.ev ⟨t, h⟩ x = .sv s) (hk : RunL Γ ops l ⟨(d, .sv s) :: t, h⟩ K) : RunL Γ ops ((⟨some d, .assign x, ty, ps, af, none⟩, c) :: l) ⟨t, h⟩ K :=
  run_pure rfl (by show RunL Γ ops l ⟨(d, St.ev ⟨t, h⟩ x) :: t, h⟩ K; rw [hx]; exact hk)
theorem q_mo (k : Nat) (hx : St.ev ⟨t, h⟩ x = .own k) (hk : RunL Γ ops l ⟨(d, .own k) :: t, h⟩ K) : RunL Γ ops ((⟨some d, .move x, ty, ps, af, none⟩, c) :: l) ⟨t, h⟩ K :=
  run_pure rfl (by show RunL Γ ops l ⟨(d, St.ev ⟨t, h⟩ x) :: t, h⟩ K; rw [hx]; exact hk)
theorem q_ao (k : Nat) (hx : St.ev ⟨t, h⟩ x = .own k) (hk : RunL Γ ops l ⟨(d, .own k) :: t, h⟩ K) : RunL Γ ops ((⟨some d, .assign x, ty, ps, af, none⟩, c) :: l) ⟨t, h⟩ K :=
  run_pure rfl (by show RunL Γ ops l ⟨(d, St.ev ⟨t, h⟩ x) :: t, h⟩ K; rw [hx]; exact hk)
theorem q_bin (u v r : Value) {b : BinOp} {t1 t2 : Nat} (hx : St.ev ⟨t, h⟩ x = .sv (.raw u)) (hy : St.ev ⟨t, h⟩ y = .sv (.raw v)) (hr : vBin b u v = some r) (hk : RunL Γ ops l ⟨(d, .sv (.raw r)) :: t, h⟩ K) :
    RunL Γ ops ((⟨some d, .binOp b t1 x y t2, ty, ps, af, none⟩, c) :: l) ⟨t, h⟩ K :=
  run_pure rfl (by simp only [stepP, hx, hy]; exact ⟨r, vBinP_of hr, hk⟩)
theorem q_add {p q : Int} {t1 t2 : Nat} (hx : St.ev ⟨t, h⟩ x = .sv (.raw (.int .i64 p))) (hy : St.ev ⟨t, h⟩ y = .sv (.raw (.int .i64 q))) (hb : -9223372036854775808 ≤ p + q ∧ p + q ≤ 9223372036854775807) (hk : RunL Γ ops l ⟨(d, .sv (.raw (.int .i64 (p + q)))) :: t, h⟩ K) :
    RunL Γ ops ((⟨some d, .binOp .add t1 x y t2, ty, ps, af, none⟩, c) :: l) ⟨t, h⟩ K :=
  q_bin _ _ _ hx hy (by simp [vBin, vInt, IntWalk.i64_in _ hb]) hk
theorem q_sub {p q : Int} {t1 t2 : Nat} (hx : St.ev ⟨t, h⟩ x = .sv (.raw (.int .i64 p))) (hy : St.ev ⟨t, h⟩ y = .sv (.raw (.int .i64 q))) (hb : -9223372036854775808 ≤ p - q ∧ p - q ≤ 9223372036854775807) (hk : RunL Γ ops l ⟨(d, .sv (.raw (.int .i64 (p - q)))) :: t, h⟩ K) :
    RunL Γ ops ((⟨some d, .binOp .sub t1 x y t2, ty, ps, af, none⟩, c) :: l) ⟨t, h⟩ K :=
  q_bin _ _ _ hx hy (by simp [vBin, vInt, IntWalk.i64_in _ hb]) hk
theorem q_div {p q : Int} {t1 t2 : Nat} (hx : St.ev ⟨t, h⟩ x = .sv (.raw (.int .i64 p))) (hy : St.ev ⟨t, h⟩ y = .sv (.raw (.int .i64 q))) (hb : 0 ≤ p ∧ 0 < q ∧ p ≤ 9223372036854775807) (hk : RunL Γ ops l ⟨(d, .sv (.raw (.int .i64 (p / q)))) :: t, h⟩ K) :
    RunL Γ ops ((⟨some d, .binOp .quo t1 x y t2, ty, ps, af, none⟩, c) :: l) ⟨t, h⟩ K := by
  have h1 : q ≠ 0 := by omega
  have h2 : p.tdiv q = p / q := Int.tdiv_eq_ediv_of_nonneg hb.1
  have h3 : 0 ≤ p / q := Int.ediv_nonneg hb.1 (by omega)
  have h4 : p / q ≤ p := Int.ediv_le_self q hb.1
  exact q_bin _ _ _ hx hy (by simp [vBin, vInt, h1, h2, IntWalk.i64_in (p / q) ⟨by omega, by omega⟩]) hk
theorem q_mod {p q : Int} {t1 t2 : Nat} (hx : St.ev ⟨t, h⟩ x = .sv (.raw (.int .i64 p))) (hy : St.ev ⟨t, h⟩ y = .sv (.raw (.int .i64 q))) (hb : 0 ≤ p ∧ 0 < q) (hk : RunL Γ ops l ⟨(d, .sv (.raw (.int .i64 (p % q)))) :: t, h⟩ K) :
    RunL Γ ops ((⟨some d, .binOp .rem t1 x y t2, ty, ps, af, none⟩, c) :: l) ⟨t, h⟩ K := by
  have h1 : q ≠ 0 := by omega
  have h2 : p.tmod q = p % q := Int.tmod_eq_emod_of_nonneg hb.1
  exact q_bin _ _ _ hx hy (by simp [vBin, vInt, h1, h2]) hk
theorem q_un (u r : Value) {b : UnOp} {t1 : Nat} (hx : St.ev ⟨t, h⟩ x = .sv (.raw u)) (hr : vUn b u = some r) (hk : RunL Γ ops l ⟨(d, .sv (.raw r)) :: t, h⟩ K) :
    RunL Γ ops ((⟨some d, .unOp b t1 x, ty, ps, af, none⟩, c) :: l) ⟨t, h⟩ K :=
  run_pure rfl (by simp only [stepP, hx]; exact ⟨r, hr, hk⟩)
theorem q_pick {b : Bool} {s1 s2 : LV} {z : Operand} (hz : St.ev ⟨t, h⟩ z = .sv (.raw (.bool b))) (hx : St.ev ⟨t, h⟩ x = s1) (hy : St.ev ⟨t, h⟩ y = s2) (h1 : b = true → RunL Γ ops l ⟨(d, s1) :: t, h⟩ K) (h2 : b = false → RunL Γ ops l ⟨(d, s2) :: t, h⟩ K) :
    RunL Γ ops ((⟨some d, .pick z x y, ty, ps, af, none⟩, c) :: l) ⟨t, h⟩ K :=
  run_pure rfl (by simp only [stepP, hz, hx, hy]; exact ⟨h1, h2⟩)
theorem q_ext {r : List SV} (s : SV) {i : Nat} (hx : St.ev ⟨t, h⟩ x = .sv (.tup r)) (hi : r[i]? = some s) (hk : RunL Γ ops l ⟨(d, .sv s) :: t, h⟩ K) : RunL Γ ops ((⟨some d, .extract x i, ty, ps, af, none⟩, c) :: l) ⟨t, h⟩ K :=
  run_pure rfl (by simp only [stepP, hx]; exact ⟨s, hi, hk⟩)
theorem q_fa {r : List SV} (s : SV) {S f off n : Nat} (hf : fdOf Γ.P S f = some (off, n, false)) (hx : St.ev ⟨t, h⟩ x = .sv (.ptr (.agg r))) (hi : r[off]? = some s) (hn : 0 < n) (hk : RunL Γ ops l ⟨(d, .sv (.ptr s)) :: t, h⟩ K) :
    RunL Γ ops ((⟨some d, .fieldAddr S x f, ty, ps, af, none⟩, c) :: l) ⟨t, h⟩ K :=
  run_pure rfl (by simp only [stepP, hx]; exact ⟨_, hf, hn, fun _ => ⟨s, hi, hk⟩, fun h => by cases h⟩)
theorem q_fas {r r' : List SV} {S f off n : Nat} (hf : fdOf Γ.P S f = some (off, n, true)) (hx : St.ev ⟨t, h⟩ x = .sv (.ptr (.agg r))) (hn : 0 < n) (hle : off + n ≤ r.length) (hr : (r.drop off).take n = r') (hk : RunL Γ ops l ⟨(d, .sv (.ptr (.agg r'))) :: t, h⟩ K) :
    RunL Γ ops ((⟨some d, .fieldAddr S x f, ty, ps, af, none⟩, c) :: l) ⟨t, h⟩ K :=
  run_pure rfl (by subst hr; simp only [stepP, hx]; exact ⟨_, hf, hn, (fun h => by cases h), fun _ => ⟨hle, hk⟩⟩)
theorem q_fap {k j S f off n : Nat} {g : Bool} (hf : fdOf Γ.P S f = some (off, n, g)) (hx : St.ev ⟨t, h⟩ x = .ptr k j) (hn : 0 < n) (hk : RunL Γ ops l ⟨(d, .ptr k (j + off)) :: t, h⟩ K) :
    RunL Γ ops ((⟨some d, .fieldAddr S x f, ty, ps, af, none⟩, c) :: l) ⟨t, h⟩ K :=
  run_pure rfl (by simp only [stepP, hx]; exact ⟨_, hf, hn, hk⟩)
theorem q_fae {k m i j S f off n : Nat} {g : Bool} (hf : fdOf Γ.P S f = some (off, n, g)) (hx : St.ev ⟨t, h⟩ x = .eptr k m i j) (hn : 0 < n) (hk : RunL Γ ops l ⟨(d, .eptr k m i (j + off)) :: t, h⟩ K) :
    RunL Γ ops ((⟨some d, .fieldAddr S x f, ty, ps, af, none⟩, c) :: l) ⟨t, h⟩ K :=
  run_pure rfl (by simp only [stepP, hx]; exact ⟨_, hf, hn, hk⟩)
theorem q_ia {r : List SV} {s : SV} {S e n : Nat} {kk : IntKind} {i : Int} (he : elOf Γ.P S = some (e, n)) (hx : St.ev ⟨t, h⟩ x = .sv (.sl n r)) (hy : St.ev ⟨t, h⟩ y = .sv (.raw (.int kk i))) (h0 : 0 ≤ i) (hi : r[i.toNat]? = some s) (hk : RunL Γ ops l ⟨(d, .sv (.ptr s)) :: t, h⟩ K) :
    RunL Γ ops ((⟨some d, .indexAddr S x y, ty, ps, af, none⟩, c) :: l) ⟨t, h⟩ K :=
  run_pure rfl (by simp only [stepP, hx, hy]; exact ⟨_, he, rfl, h0, s, hi, hk⟩)
theorem q_iao {r : List SV} {k T S e n : Nat} {kk : IntKind} {i : Int} (he : elOf Γ.P S = some (e, n)) (hx : St.ev ⟨t, h⟩ x = .own k) (hh : h.lookup k = some (.row n T r)) (hy : St.ev ⟨t, h⟩ y = .sv (.raw (.int kk i))) (h0 : 0 ≤ i) (hi : i.toNat < r.length) (hk : RunL Γ ops l ⟨(d, .eptr k n i.toNat 0) :: t, h⟩ K) :
    RunL Γ ops ((⟨some d, .indexAddr S x y, ty, ps, af, none⟩, c) :: l) ⟨t, h⟩ K :=
  run_pure rfl (by simp only [stepP, hx, hy]; exact ⟨_, he, T, r, hh, h0, hi, hk⟩)
theorem q_ix {s : ByteArray} {b : UInt8} {S : Nat} {kk : IntKind} {i : Int} (hS : strOf Γ.P S = true) (hx : St.ev ⟨t, h⟩ x = .sv (.raw (.string s))) (hy : St.ev ⟨t, h⟩ y = .sv (.raw (.int kk i))) (h0 : 0 ≤ i) (hi : s[i.toNat]? = some b) (hk : RunL Γ ops l ⟨(d, .sv (.raw (.int .u8 b.toNat))) :: t, h⟩ K) :
    RunL Γ ops ((⟨some d, .index S x y, ty, ps, af, none⟩, c) :: l) ⟨t, h⟩ K :=
  run_pure rfl (by simp only [stepP, hx, hy]; exact ⟨hS, h0, b, hi, hk⟩)
def Lo (σ : St) (lo : Option Operand) (p : Int) : Prop := (lo = none ∧ p = 0) ∨ ∃ o k, lo = some o ∧ σ.ev o = .sv (.raw (.int k p))
def Hi (σ : St) (n : Nat) (hi : Option Operand) (q : Int) : Prop := (hi = none ∧ q = n) ∨ ∃ o k, hi = some o ∧ σ.ev o = .sv (.raw (.int k q))
theorem q_sl {r : List SV} {S e n : Nat} {lo hi : Option Operand} (p q : Int) (he : elOf Γ.P S = some (e, n)) (hx : St.ev ⟨t, h⟩ x = .sv (.sl n r)) (h1 : Lo ⟨t, h⟩ lo p) (h2 : Hi ⟨t, h⟩ r.length hi q) (h3 : 0 ≤ p) (h4 : p ≤ q) (h5 : q ≤ r.length)
    (hk : RunL Γ ops l ⟨(d, .sv (.sl n ((r.drop p.toNat).take (q - p).toNat))) :: t, h⟩ K) : RunL Γ ops ((⟨some d, .slice S x lo hi none, ty, ps, af, none⟩, c) :: l) ⟨t, h⟩ K :=
  run_pure rfl (by simp only [stepP, hx]; exact ⟨_, he, rfl, p, q, h1, h2, h3, h4, h5, hk⟩)
theorem q_cv {p : Int} {S D : Nat} {kk k' : IntKind} (hs : (aggOf Γ.P S).isSome = true) (hd : inkOf Γ.P D = some k') (hx : St.ev ⟨t, h⟩ x = .sv (.raw (.int kk p))) (hw : k'.wrap p = p) (hk : RunL Γ ops l ⟨(d, .sv (.raw (.int k' p))) :: t, h⟩ K) :
    RunL Γ ops ((⟨some d, .convert S D x, ty, ps, af, none⟩, c) :: l) ⟨t, h⟩ K :=
  run_pure rfl (by simp only [stepP, hx]; exact ⟨hs, k', hd, by rw [hw]; exact hk⟩)
theorem q_len {r : List SV} {S n : Nat} (he : (elOf Γ.P S).isSome = true) (hx : St.ev ⟨t, h⟩ x = .sv (.sl n r)) (hk : RunL Γ ops l ⟨(d, .sv (.raw (.int .i64 r.length))) :: t, h⟩ K) :
    RunL Γ ops ((⟨some d, .call { callee := .builtin .len, args := #[x], argTypes := #[S] }, ty, ps, af, none⟩, c) :: l) ⟨t, h⟩ K :=
  run_pure rfl (by simp only [stepP, hx]; exact ⟨he, hk⟩)
theorem q_leno {r : List SV} {S n T k : Nat} (he : (elOf Γ.P S).isSome = true) (hx : St.ev ⟨t, h⟩ x = .own k) (hh : h.lookup k = some (.row n T r)) (hk : RunL Γ ops l ⟨(d, .sv (.raw (.int .i64 r.length))) :: t, h⟩ K) :
    RunL Γ ops ((⟨some d, .call { callee := .builtin .len, args := #[x], argTypes := #[S] }, ty, ps, af, none⟩, c) :: l) ⟨t, h⟩ K :=
  run_pure rfl (by simp only [stepP, hx]; exact ⟨he, n, T, r, hh, hk⟩)
theorem q_lens {s : ByteArray} {S : Nat} (he : strOf Γ.P S = true) (hx : St.ev ⟨t, h⟩ x = .sv (.raw (.string s))) (hk : RunL Γ ops l ⟨(d, .sv (.raw (.int .i64 s.size))) :: t, h⟩ K) :
    RunL Γ ops ((⟨some d, .call { callee := .builtin .len, args := #[x], argTypes := #[S] }, ty, ps, af, none⟩, c) :: l) ⟨t, h⟩ K :=
  run_pure rfl (by simp only [stepP, hx]; exact ⟨he, hk⟩)
theorem q_min {p q : Int} {k k' : IntKind} {S : Array Nat} (hx : St.ev ⟨t, h⟩ x = .sv (.raw (.int k p))) (hy : St.ev ⟨t, h⟩ y = .sv (.raw (.int k' q))) (hk : RunL Γ ops l ⟨(d, .sv (.raw (.int k (if q < p then q else p)))) :: t, h⟩ K) :
    RunL Γ ops ((⟨some d, .call { callee := .builtin .min, args := #[x, y], argTypes := S }, ty, ps, af, none⟩, c) :: l) ⟨t, h⟩ K :=
  run_pure rfl (by simp only [stepP, hx, hy]; exact hk)
theorem q_max {p q : Int} {k k' : IntKind} {S : Array Nat} (hx : St.ev ⟨t, h⟩ x = .sv (.raw (.int k p))) (hy : St.ev ⟨t, h⟩ y = .sv (.raw (.int k' q))) (hk : RunL Γ ops l ⟨(d, .sv (.raw (.int k (if q > p then q else p)))) :: t, h⟩ K) :
    RunL Γ ops ((⟨some d, .call { callee := .builtin .max, args := #[x, y], argTypes := S }, ty, ps, af, none⟩, c) :: l) ⟨t, h⟩ K :=
  run_pure rfl (by simp only [stepP, hx, hy]; exact hk)
theorem q_ld (s : SV) {S : Nat} (hg : aggOf Γ.P S = some false) (hx : St.ev ⟨t, h⟩ x = .sv (.ptr s)) (h1 : s.one = true) (hk : RunL Γ ops l ⟨(d, .sv s) :: t, h⟩ K) : RunL Γ ops ((⟨some d, .load S x, ty, ps, af, none⟩, c + 1) :: l) ⟨t, h⟩ K :=
  run_read rfl (by omega) (by simp only [stepR, hx]; exact ⟨_, hg, fun _ => ⟨h1, hk⟩, fun h => by cases h⟩)
theorem q_lds (r : List SV) {S : Nat} (hg : aggOf Γ.P S = some true) (hx : St.ev ⟨t, h⟩ x = .sv (.ptr (.agg r))) (hs : szOf Γ.P S = some r.length) (hk : RunL Γ ops l ⟨(d, .sv (.agg r)) :: t, h⟩ K) : RunL Γ ops ((⟨some d, .load S x, ty, ps, af, none⟩, c + 1) :: l) ⟨t, h⟩ K :=
  run_read rfl (by omega) (by simp only [stepR, hx]; exact ⟨_, hg, (fun h => by cases h), fun _ => ⟨r, rfl, hs, hk⟩⟩)
theorem q_ldb (lv : LV) {S k j : Nat} {cells : List LV} (hg : aggOf Γ.P S = some false) (hx : St.ev ⟨t, h⟩ x = .ptr k j) (hh : h.lookup k = some (.box cells)) (hj : cells[j]? = some lv) (hk : RunL Γ ops l ⟨(d, lv) :: t, h⟩ K) : RunL Γ ops ((⟨some d, .load S x, ty, ps, af, none⟩, c + 1) :: l) ⟨t, h⟩ K :=
  run_read rfl (by omega) (by simp only [stepR, hx]; exact ⟨cells, hh, _, hg, fun _ => ⟨lv, hj, hk⟩, fun h => by cases h⟩)
theorem q_ldbs {r : List SV} {S k j n : Nat} {cells : List LV} (hg : aggOf Γ.P S = some true) (hx : St.ev ⟨t, h⟩ x = .ptr k j) (hh : h.lookup k = some (.box cells)) (hs : szOf Γ.P S = some n) (hr : svs ((cells.drop j).take n) = some r) (hl : r.length = n) (hk : RunL Γ ops l ⟨(d, .sv (.agg r)) :: t, h⟩ K) :
    RunL Γ ops ((⟨some d, .load S x, ty, ps, af, none⟩, c + 1) :: l) ⟨t, h⟩ K :=
  run_read rfl (by omega) (by simp only [stepR, hx]; exact ⟨cells, hh, _, hg, (fun h => by cases h), fun _ => ⟨n, hs, r, hr, hl, hk⟩⟩)
theorem q_lde {r : List SV} (s : SV) {S k n i T : Nat} (hg : aggOf Γ.P S = some false) (hx : St.ev ⟨t, h⟩ x = .eptr k n i 0) (hh : h.lookup k = some (.row n T r)) (hi : r[i]? = some s) (h1 : s.one = true) (hk : RunL Γ ops l ⟨(d, .sv s) :: t, h⟩ K) :
    RunL Γ ops ((⟨some d, .load S x, ty, ps, af, none⟩, c + 1) :: l) ⟨t, h⟩ K :=
  run_read rfl (by omega) (by simp only [stepR, hx]; exact ⟨T, r, s, hh, hi, _, hg, fun _ => .inl ⟨trivial, h1, hk⟩, fun h => by cases h⟩)
theorem q_ldef {r cs : List SV} (s : SV) {S k n i j T : Nat} (hg : aggOf Γ.P S = some false) (hx : St.ev ⟨t, h⟩ x = .eptr k n i j) (hh : h.lookup k = some (.row n T r)) (hi : r[i]? = some (.agg cs)) (hj : cs[j]? = some s) (hk : RunL Γ ops l ⟨(d, .sv s) :: t, h⟩ K) :
    RunL Γ ops ((⟨some d, .load S x, ty, ps, af, none⟩, c + 1) :: l) ⟨t, h⟩ K :=
  run_read rfl (by omega) (by simp only [stepR, hx]; exact ⟨T, r, _, hh, hi, _, hg, fun _ => .inr ⟨cs, s, rfl, hj, hk⟩, fun h => by cases h⟩)
theorem q_ldes {r cs : List SV} {S k n i T : Nat} (hg : aggOf Γ.P S = some true) (hx : St.ev ⟨t, h⟩ x = .eptr k n i 0) (hh : h.lookup k = some (.row n T r)) (hi : r[i]? = some (.agg cs)) (hs : szOf Γ.P S = some cs.length) (hk : RunL Γ ops l ⟨(d, .sv (.agg cs)) :: t, h⟩ K) :
    RunL Γ ops ((⟨some d, .load S x, ty, ps, af, none⟩, c + 1) :: l) ⟨t, h⟩ K :=
  run_read rfl (by omega) (by simp only [stepR, hx]; exact ⟨T, r, _, hh, hi, _, hg, (fun h => by cases h), fun _ => ⟨trivial, cs, rfl, hs, hk⟩⟩)
theorem q_box (s : SV) {S : Nat} (hx : St.ev ⟨t, h⟩ x = .sv s) (h1 : (∃ r, s = .agg r ∧ 0 < r.length) ∨ s.one = true) (hk : RunL Γ ops l ⟨(d, .sv (.ptr s)) :: t, h⟩ K) : RunL Γ ops ((⟨some d, .box S x, ty, ps, af, none⟩, c + 2) :: l) ⟨t, h⟩ K :=
  run_x (ext := True) rfl (by omega) (fun _ => trivial) fun _ _ _ I hd => ok_box I rfl hd hx h1 hk
theorem q_boxs (r : List SV) {S : Nat} (hx : St.ev ⟨t, h⟩ x = .sv (.agg r)) (h1 : 0 < r.length) (hk : RunL Γ ops l ⟨(d, .sv (.ptr (.agg r))) :: t, h⟩ K) : RunL Γ ops ((⟨some d, .box S x, ty, ps, af, none⟩, c + 2) :: l) ⟨t, h⟩ K :=
  q_box _ hx (.inl ⟨r, rfl, h1⟩) hk
theorem q_boxo (s : SV) {S : Nat} {cells : List LV} (hx : St.ev ⟨t, h⟩ x = .sv s) (h1 : (∃ r, s = .agg r) ∨ s.one = true) (hf : St.free ⟨t, h⟩ d = true) (hi : Γ.inn d = none) (hc : s.cells.map .sv = cells) (hk : RunL Γ ops l ⟨(d, .ptr d 0) :: t, ins d (.box cells) h⟩ K) :
    RunL Γ ops ((⟨some d, .box S x, ty, ps, af, none⟩, c + 2) :: l) ⟨t, h⟩ K := by
  subst hc
  exact run_x (ext := True) rfl (by omega) (fun _ => trivial) fun _ _ _ I hd => ok_box_own I rfl rfl (by simpa [dstOk] using hd) hx h1 hf hi hk
theorem q_alloc (z : Value) {S : Nat} {cells : List LV} (hz : zeroOf Γ.P S = some z) (h1 : z.cells.toList.all (·.oneCell') = true) (hf : St.free ⟨t, h⟩ d = true) (hi : Γ.inn d = none) (hc : (z.cells.toList.map fun v => LV.sv (.raw v)) = cells) (hk : RunL Γ ops l ⟨(d, .ptr d 0) :: t, ins d (.box cells) h⟩ K) :
    RunL Γ ops ((⟨some d, .alloc S, ty, ps, af, none⟩, c + 2) :: l) ⟨t, h⟩ K := by
  subst hc
  exact run_x (ext := True) rfl (by omega) (fun _ => trivial) fun _ _ _ I hd => ok_alloc I rfl rfl (by simpa [dstOk] using hd) hz (by simpa using h1) hf hi hk
theorem q_lit {S e n len : Nat} (z : Value) {parts : Array (Nat × Operand)} (r : List SV) (he : elOf Γ.P S = some (e, n)) (hz : zeroOf Γ.P e = some z) (hn : 0 < n) (hlen : len = parts.size) (hbig : len * n ≤ 16777216) (hp : litParts 0 parts.toList = true)
    (hl : parts.toList.map (fun p => St.ev ⟨t, h⟩ p.2) = r.map LV.sv) (h1 : ∀ s ∈ r, ((∃ c, s = .agg c) ∨ s.one = true) ∧ s.cells.length = n) (hk : RunL Γ ops l ⟨(d, .sv (.sl n r)) :: t, h⟩ K) :
    RunL Γ ops ((⟨some d, .buildSlice S len parts, ty, ps, af, none⟩, c + 2) :: l) ⟨t, h⟩ K :=
  run_x (ext := True) rfl (by omega) (fun _ => trivial) fun _ _ _ I hd => ok_buildSlice I rfl hd he hz hn hlen hbig hp hl h1 hk
theorem q_lit1 {S e n : Nat} (z : Value) (s : SV) (he : elOf Γ.P S = some (e, n)) (hz : zeroOf Γ.P e = some z) (hn : 0 < n) (hbig : n ≤ 16777216) (hx : St.ev ⟨t, h⟩ x = .sv s) (h1 : (∃ c, s = .agg c) ∨ s.one = true) (h2 : s.cells.length = n) (hk : RunL Γ ops l ⟨(d, .sv (.sl n [s])) :: t, h⟩ K) :
    RunL Γ ops ((⟨some d, .buildSlice S 1 #[(0, x)], ty, ps, af, none⟩, c + 2) :: l) ⟨t, h⟩ K :=
  q_lit z [s] he hz hn rfl (by omega) rfl (by simp [hx]) (by simp; exact ⟨h1, h2⟩) hk
theorem q_make {S e n by_ m : Nat} {kl kc : IntKind} (z : Value) (s : SV) (he : elOf Γ.P S = some (e, n)) (hn : 0 < n) (hz : zeroOf Γ.P e = some z) (hzn : z.cells.size = n) (hb : bytOf Γ.P e = some by_)
    (hx : St.ev ⟨t, h⟩ x = .sv (.raw (.int kl m))) (hy : St.ev ⟨t, h⟩ y = .sv (.raw (.int kc m))) (hf : St.free ⟨t, h⟩ d = true) (hi : Γ.inn d = none)
    (hs : (z = .agg z.cells ∧ s = .agg (z.cells.toList.map .raw) ∧ z.cells.toList.all (·.oneCell') = true) ∨ (z.oneCell' = true ∧ s = .raw z)) (h63 : m ≤ maxLen) (hbytes : by_ * m ≤ 281474976710656)
    (hk : RunL Γ ops l ⟨(d, .own d) :: t, ins d (.row n e (List.replicate m s)) h⟩ K) : RunL Γ ops ((⟨some d, .makeSlice S x y, ty, ps, af, none⟩, c + 2) :: l) ⟨t, h⟩ K :=
  run_x (ext := True) rfl (by omega) (fun _ => trivial) fun _ _ _ I hd => ok_make I rfl rfl (by simpa [dstOk] using hd) he hn hz hzn hb hx hy hf hi (hs.imp (fun ⟨a, b, c⟩ => ⟨a, b, by simpa using c⟩) id) h63 hbytes hk
theorem q_app {S e n by_ k : Nat} (z : Value) {r q : List SV} (he : elOf Γ.P S = some (e, n)) (hz : zeroOf Γ.P e = some z) (hzn : z.cells.size = n) (hb : bytOf Γ.P e = some by_)
    (hx : St.ev ⟨t, h⟩ x = .own k) (hh : h.lookup k = some (.row n e r)) (hf : St.free ⟨t, h⟩ d = true) (hi : Γ.inn d = none) (hy : St.ev ⟨t, h⟩ y = .sv (.sl n q)) (hq : q ≠ []) (h1 : ∀ s ∈ q, ((∃ c, s = .agg c) ∨ s.one = true)) (h63 : r.length + q.length ≤ maxLen) (hbytes : (r.length + q.length) * by_ ≤ 140737488355328)
    (hk : RunL Γ ops l ⟨(d, .own d) :: t, ins d (.row n e (r ++ q)) (ins d (.row n e r) (dropH k h))⟩ K) :
    RunL Γ ops ((⟨some d, .call { callee := .builtin .append, args := #[x, y], argTypes := #[S, S] }, ty, ps, af, none⟩, 2) :: l) ⟨t, h⟩ K :=
  run_x (ext := False) rfl (by omega) (fun h => (h rfl).elim) fun _ _ _ I hd => ok_append I rfl rfl (by simpa [dstOk] using hd) he hz hzn hb hx hh rfl hf hi hy hq h1 h63 hbytes hk
theorem q_app0 {S e n by_ : Nat} (z : Value) {q : List SV} (he : elOf Γ.P S = some (e, n)) (hn : 0 < n) (hz : zeroOf Γ.P e = some z) (hzn : z.cells.size = n) (hb : bytOf Γ.P e = some by_)
    (hx : St.ev ⟨t, h⟩ x = .sv (.raw (.slice none 0 0))) (hf : St.free ⟨t, h⟩ d = true) (hi : Γ.inn d = none) (hy : St.ev ⟨t, h⟩ y = .sv (.sl n q)) (hq : q ≠ []) (h1 : ∀ s ∈ q, ((∃ c, s = .agg c) ∨ s.one = true)) (h63 : q.length ≤ maxLen) (hbytes : q.length * by_ ≤ 140737488355328)
    (hk : RunL Γ ops l ⟨(d, .own d) :: t, ins d (.row n e q) (ins d (.row n e []) h)⟩ K) :
    RunL Γ ops ((⟨some d, .call { callee := .builtin .append, args := #[x, y], argTypes := #[S, S] }, ty, ps, af, none⟩, 2) :: l) ⟨t, h⟩ K :=
  run_x (ext := False) rfl (by omega) (fun h => (h rfl).elim) fun _ _ _ I hd => ok_append_nil I rfl rfl (by simpa [dstOk] using hd) he hn hz hzn hb hx hf hi hy hq h1 h63 hbytes hk
theorem q_st {S k j : Nat} {cells cells' : List LV} (lv : LV) (hs : szOf Γ.P S = some 1) (hx : St.ev ⟨t, h⟩ x = .ptr k j) (hh : h.lookup k = some (.box cells)) (hj : j < cells.length) (hy : St.ev ⟨t, h⟩ y = lv) (h1 : ∃ s, lv = .sv s ∧ s.one = true) (hc : cells.take j ++ [lv] ++ cells.drop (j + 1) = cells') (hk : RunL Γ ops l ⟨t, ins k (.box cells') h⟩ K) :
    RunL Γ ops ((⟨none, .store S x y, ty, ps, af, none⟩, 2) :: l) ⟨t, h⟩ K := by
  subst hc
  refine run_x (ext := False) rfl (by omega) (fun h => (h rfl).elim) fun a w ρ I hd => ok_store_box (new := [lv]) I rfl hd hx hh hs (by simp; omega) ?_ hk
  obtain ⟨s, rfl, hs1⟩ := h1
  have hY := I.ev y
  rw [hy] at hY
  have h1 := Rep.oneCell hY hs1
  rw [oneCell_cells h1]
  refine ⟨rfl, fun i lv u hi hu => ?_⟩
  have : i = 0 := by cases i with | zero => rfl | succ i => simp at hi
  subst this
  simp at hi hu
  subst hi hu
  exact ⟨hY, h1⟩
theorem q_sto {S k j k' : Nat} {cells cells' : List LV} {n T : Nat} {r : List SV} (hs : szOf Γ.P S = some 1) (hx : St.ev ⟨t, h⟩ x = .ptr k j) (hh : h.lookup k = some (.box cells)) (hj : j < cells.length) (hy : St.ev ⟨t, h⟩ y = .own k') (hr : h.lookup k' = some (.row n T r)) (hc : cells.take j ++ [LV.own k'] ++ cells.drop (j + 1) = cells') (hk : RunL Γ ops l ⟨t, ins k (.box cells') h⟩ K) :
    RunL Γ ops ((⟨none, .store S x y, ty, ps, af, none⟩, 2) :: l) ⟨t, h⟩ K := by
  subst hc
  refine run_x (ext := False) rfl (by omega) (fun h => (h rfl).elim) fun a w ρ I hd => ok_store_box (new := [.own k']) I rfl hd hx hh hs (by simp; omega) ?_ hk
  have hY := I.ev y
  rw [hy] at hY
  have hY' : a.eval y = ρ k' := hY
  obtain ⟨hz, xs, vals, hown, _⟩ := I.ent k' _ hr
  have h1 : (a.eval y).oneCell' = true := by
    rw [hY']
    rcases hown.2 with ⟨h0, _⟩ | ⟨g, cap, cur, h0, _⟩ <;> rw [h0] <;> rfl
  rw [oneCell_cells h1]
  refine ⟨rfl, fun i lv u hi hu => ?_⟩
  have : i = 0 := by cases i with | zero => rfl | succ i => simp at hi
  subst this
  simp at hi hu
  subst hi hu
  exact ⟨hY, h1⟩
theorem q_sts {S k j : Nat} {cells cells' : List LV} (r : List SV) (hx : St.ev ⟨t, h⟩ x = .ptr k j) (hh : h.lookup k = some (.box cells)) (hy : St.ev ⟨t, h⟩ y = .sv (.agg r)) (hs : szOf Γ.P S = some r.length) (hj : j + r.length ≤ cells.length) (hc : cells.take j ++ r.map .sv ++ cells.drop (j + r.length) = cells') (hk : RunL Γ ops l ⟨t, ins k (.box cells') h⟩ K) :
    RunL Γ ops ((⟨none, .store S x y, ty, ps, af, none⟩, 2) :: l) ⟨t, h⟩ K := by
  subst hc
  refine run_x (ext := False) rfl (by omega) (fun h => (h rfl).elim) fun a w ρ I hd => ok_store_box (new := r.map .sv) I rfl hd hx hh (by simpa using hs) (by simpa using hj) ?_ (by simpa [St.put] using hk)
  have hY := I.ev y
  rw [hy] at hY
  obtain ⟨h1, h2⟩ := sv_cells hY (.inl ⟨r, rfl⟩)
  refine ⟨by rw [h1]; simp [SV.cells], fun i lv u hi hu => ?_⟩
  rw [List.getElem?_map] at hi
  cases hq : r[i]? with
  | none => simp [hq] at hi
  | some q => simp [hq] at hi; subst hi; exact h2 i q u hq hu
theorem q_ste {S k i n T : Nat} {r : List SV} {s s' : SV} (hs : szOf Γ.P S = some n) (hx : St.ev ⟨t, h⟩ x = .eptr k n i 0) (hh : h.lookup k = some (.row n T r)) (hi : r[i]? = some s) (hy : St.ev ⟨t, h⟩ y = .sv s') (h1 : (∃ c, s' = .agg c) ∨ s'.one = true) (h2 : s'.cells.length = n)
    (hk : RunL Γ ops l ⟨t, ins k (.row n T (r.set i s')) h⟩ K) : RunL Γ ops ((⟨none, .store S x y, ty, ps, af, none⟩, 2) :: l) ⟨t, h⟩ K := by
  refine run_x (ext := False) rfl (by omega) (fun h => (h rfl).elim) fun a w ρ I hd => ?_
  have hY := I.ev y
  rw [hy] at hY
  obtain ⟨h3, h4⟩ := sv_cells hY h1
  have hsz : (a.eval y).cells.size = n := by rw [h3, h2]
  refine ok_store_row (s' := s') I rfl hd hx hh hi (by rw [hsz]; exact hs) (by omega) ?_ ?_ hk
  · intro u hu
    obtain ⟨m, hm⟩ := List.getElem?_of_mem hu
    have hm' : (a.eval y).cells[m]? = some u := by simpa using hm
    have hlt : m < s'.cells.length := by rw [← h3]; exact (Array.getElem?_eq_some_iff.1 hm').1
    exact (h4 m _ u (List.getElem?_eq_getElem hlt) hm').2
  · intro v _ _
    refine ⟨a.eval y, hY, hsz, fun m hm => ?_⟩
    rw [if_pos (by omega)]; simp
theorem q_stef {S k i j n T : Nat} {r cs : List SV} {s' : SV} (hs : szOf Γ.P S = some 1) (hx : St.ev ⟨t, h⟩ x = .eptr k n i j) (hh : h.lookup k = some (.row n T r)) (hi : r[i]? = some (.agg cs)) (hj : j < cs.length) (hn : cs.length = n) (hy : St.ev ⟨t, h⟩ y = .sv s') (h1 : s'.one = true)
    (hk : RunL Γ ops l ⟨t, ins k (.row n T (r.set i (.agg (cs.set j s')))) h⟩ K) : RunL Γ ops ((⟨none, .store S x y, ty, ps, af, none⟩, 2) :: l) ⟨t, h⟩ K := by
  refine run_x (ext := False) rfl (by omega) (fun h => (h rfl).elim) fun a w ρ I hd => ?_
  have hY := I.ev y
  rw [hy] at hY
  have h2 := Rep.oneCell hY h1
  have hc := oneCell_cells h2
  refine ok_store_row (s' := .agg (cs.set j s')) I rfl hd hx hh hi (by rw [hc]; exact hs) (by rw [hc]; simp; omega) ?_ ?_ hk
  · rw [hc]; intro u hu; simp at hu; subst hu; exact h2
  · intro v hv hvs
    obtain ⟨vs, rfl, hsz⟩ := agg_inv hv
    cases hv with
    | agg _ _ hn' h1' hr' =>
      refine ⟨.agg (vs.setIfInBounds j (a.eval y)), Rep.agg _ _ (by simp; omega) (fun m u hu => ?_) (fun m q u hq hu => ?_), by simpa [Value.cells] using hvs, fun m hm => ?_⟩
      · rw [Array.getElem?_setIfInBounds] at hu
        split at hu
        · split at hu
          · cases hu; exact h2
          · cases hu
        · exact h1' m u hu
      · rw [Array.getElem?_setIfInBounds] at hu
        rw [List.getElem?_set] at hq
        by_cases hjm : j = m
        · rw [if_pos hjm] at hu hq
          subst hjm
          rw [if_pos (by omega)] at hu hq
          cases hu; cases hq; exact hY
        · rw [if_neg hjm] at hu hq
          exact hr' m q u hq hu
      · rw [hc]
        simp only [Value.cells, Array.getElem?_setIfInBounds]
        by_cases hjm : j = m
        · subst hjm
          rw [if_pos rfl, if_pos (by omega), if_pos (by simp)]; simp
        · rw [if_neg hjm, if_neg (by simp; omega)]
def Calb (P : Program) (f : Nat) : Prop := ∃ fn, P.funcs[f]? = some fn ∧ (fn.name == "runtime.NumGoroutine") = false ∧ fn.body.isNone = false
theorem q_call {f : Nat} {args : Array Operand} {ts : Array Nat} {as : List SV} {r : SV} (hc : PFn Γ.P f as r) (hcl : Calb Γ.P f)
    (ha : lends h (args.toList.map (St.ev ⟨t, h⟩)) = some as) (hr : (allSv (args.toList.map (St.ev ⟨t, h⟩)) || r.scal) = true) (hk : RunL Γ ops l ⟨(d, .sv r) :: t, h⟩ K) :
    RunL Γ ops ((⟨some d, .call { callee := .value (.func f), args := args, argTypes := ts }, ty, ps, af, none⟩, c + 2) :: l) ⟨t, h⟩ K :=
  let ⟨_, hf, hname, hb⟩ := hcl
  run_x (ext := True) rfl (by omega) (fun _ => trivial) fun _ _ _ I hd => ok_call I rfl rfl hd hf hname hb ha hr hc hk
theorem q_callv {f : Nat} {y : Operand} {args : Array Operand} {ts : Array Nat} {as : List SV} {r : SV} (hc : PFn Γ.P f as r) (hcl : Calb Γ.P f) (hy : St.ev ⟨t, h⟩ y = .sv (.raw (.func (.func f) #[] #[])))
    (ha : lends h (args.toList.map (St.ev ⟨t, h⟩)) = some as) (hr : (allSv (args.toList.map (St.ev ⟨t, h⟩)) || r.scal) = true) (hk : RunL Γ ops l ⟨(d, .sv r) :: t, h⟩ K) :
    RunL Γ ops ((⟨some d, .call { callee := .value y, args := args, argTypes := ts }, ty, ps, af, none⟩, c + 2) :: l) ⟨t, h⟩ K :=
  let ⟨_, hf, hname, hb⟩ := hcl
  run_x (ext := True) rfl (by omega) (fun _ => trivial) fun _ _ _ I hd => ok_call I rfl hy hd hf hname hb ha hr hc hk
end
end Go.Abs

/- '||' and '&&' over plain values: one way on, with the truth of both. No condition. -/
namespace Go.Abs
open Go Go.RowKit Go.Eager

theorem wpP_app {P : Program} {ops : Array Oper} {Q : Act → World → Prop} : ∀ {l1 l2 : List (Oper × Nat)} {a : Act} {w : World}, wpP P ops (fun a w => wpP P ops Q l2 a w) l1 a w → wpP P ops Q (l1 ++ l2) a w
  | [], _, _, _, h => h
  | (o, c) :: l1, l2, a, w, h => by
    rw [List.cons_append]
    unfold wpP at h ⊢
    split
    · rename_i hc
      rw [if_pos hc] at h
      obtain ⟨v, h1, h2⟩ := h
      exact ⟨v, h1, wpP_app h2⟩
    · rename_i hc
      rw [if_neg hc] at h
      split
      · rename_i hw; rw [if_pos hw] at h
        exact oN_mono (fun v w' hk => ⟨hk.1, wpP_app hk.2⟩) h
      · rename_i hw; rw [if_neg hw] at h
        exact wpP_app h

theorem wpP_mono {P : Program} {ops : Array Oper} {Q Q' : Act → World → Prop} (hq : ∀ a w, Q a w → Q' a w) : ∀ {l : List (Oper × Nat)} {a : Act} {w : World}, wpP P ops Q l a w → wpP P ops Q' l a w
  | [], _, _, h => hq _ _ h
  | (o, c) :: l, a, w, h => by
    unfold wpP at h ⊢
    split
    · rename_i hc
      rw [if_pos hc] at h
      obtain ⟨v, h1, h2⟩ := h
      exact ⟨v, h1, wpP_mono hq h2⟩
    · rename_i hc
      rw [if_neg hc] at h
      split
      · rename_i hw; rw [if_pos hw] at h
        exact oN_mono (fun v w' hk => ⟨hk.1, wpP_mono hq hk.2⟩) h
      · rename_i hw; rw [if_neg hw] at h
        exact wpP_mono hq h

def guardedBy (ops : Array Oper) (g : Nat) (want : Bool) : List Nat → List (Oper × Nat) → Bool
  | _, [] => true
  | ds, (o, _) :: l => (match o.guard with | some (g', w) => (g' == g && w == want) || (match (ops[g']?).bind (·.dst) with | some t => ds.contains t | none => false) | none => false) && guardedBy ops g want (match o.dst with | some d => d :: ds | none => ds) l
def unguard (g : Nat) (want : Bool) (l : List (Oper × Nat)) : List (Oper × Nat) := l.map fun p => (match p.1.guard with | some (g', w) => if g' == g && w == want then { p.1 with guard := none } else p.1 | none => p.1, p.2)
def freshT : List (Oper × Nat) → List (Nat × LV) → Bool
  | [], _ => true
  | (o, _) :: l, t => (match o.dst with | some d => (t.lookup d).isNone | none => true) && freshT l t
def freshB : Nat → List (Nat × LV) → Bool
  | 0, _ => true
  | m + 1, (k, _) :: t => (t.lookup k).isNone && freshB m t
  | _ + 1, [] => false
def SubT (t t' : List (Nat × LV)) : Prop := ∀ k lv, t.lookup k = some lv → t'.lookup k = some lv
theorem SubT.refl (t : List (Nat × LV)) : SubT t t := fun _ _ h => h
theorem SubT.cons {t t' : List (Nat × LV)} (h : SubT t t') {k : Nat} (hk : t.lookup k = none) (lv : LV) : SubT t ((k, lv) :: t') := by
  intro k' lv' h'
  rw [List.lookup_cons]
  by_cases hkk : k' = k
  · subst hkk; rw [hk] at h'; cases h'
  · have : (k' == k) = false := by simpa using hkk
    simp only [this]; exact h k' lv' h'
theorem SubT.both {t t' : List (Nat × LV)} (h : SubT t t') (k : Nat) (lv : LV) : SubT ((k, lv) :: t) ((k, lv) :: t') := by
  intro k' lv' h'
  rw [List.lookup_cons] at h' ⊢
  split
  · rename_i hk; rw [hk] at h'; exact h'
  · rename_i hk; rw [hk] at h'; exact h k' lv' h'
theorem freshB_spec : ∀ (m : Nat) (t : List (Nat × LV)), freshB m t = true → SubT (t.drop m) t
  | 0, t, _ => SubT.refl t
  | m + 1, [], h => by simp [freshB] at h
  | m + 1, (k, lv) :: t, h => by
    simp only [freshB, Bool.and_eq_true, Option.isNone_iff_eq_none] at h
    have ih := freshB_spec m t h.2
    rw [List.drop_succ_cons]
    refine ih.cons ?_ lv
    cases hl : (t.drop m).lookup k with
    | none => rfl
    | some x => have := ih k x hl; rw [h.1] at this; cases this

section
variable {Γ : Ctx} {ops : Array Oper} {t : List (Nat × LV)} {h : List (Nat × Ent)} {K : St → Prop}

theorem skip_all {g tg : Nat} {want b : Bool} (hgd : (ops[g]?).bind (·.dst) = some tg) (hb : b ≠ want) : ∀ (l1 : List (Oper × Nat)) (ds : List Nat) (t' : List (Nat × LV)), SubT t t' → (∀ d ∈ ds, t'.lookup d = some (.sv (.raw undef))) → St.ev ⟨t, h⟩ (.tmp tg) = .sv (.raw (.bool b)) → guardedBy ops g want ds l1 = true → freshT l1 t = true → (t.lookup tg).isSome = true →
    (∀ t'', SubT t t'' → K ⟨t'', h⟩) → RunL Γ ops l1 ⟨t', h⟩ K
  | [], _, t', hs, _, _, _, _, _, hK => run_nil (hK t' hs)
  | (o, c) :: l1, ds, t', hs, hds, ht, hg, hf, hsome, hK => by
    simp only [guardedBy, freshT, Bool.and_eq_true] at hg hf
    have next : RunL Γ ops l1 (St.put ⟨t', h⟩ o.dst (.sv (.raw undef))) K := by
      cases hd : o.dst with
      | none =>
        simp only [St.put]
        rw [hd] at hg
        exact skip_all hgd hb l1 ds t' hs hds ht hg.2 hf.2 hsome hK
      | some d =>
        simp only [St.put]
        rw [hd] at hf hg
        simp only [Option.isNone_iff_eq_none] at hf
        refine skip_all hgd hb l1 (d :: ds) _ (hs.cons hf.1 _) (fun d' hd' => ?_) ht hg.2 hf.2 hsome hK
        rw [List.lookup_cons]
        by_cases hdd : d' = d
        · subst hdd; simp
        · have hbd : (d' == d) = false := by simpa using hdd
          simp only [hbd]
          exact hds d' ((List.mem_cons.1 hd').resolve_left hdd)
    cases hog : o.guard with
    | none => rw [hog] at hg; simp at hg
    | some gw =>
      obtain ⟨g', w'⟩ := gw
      rw [hog] at hg
      simp only [Bool.or_eq_true, Bool.and_eq_true, beq_iff_eq] at hg
      rcases hg.1 with ⟨rfl, rfl⟩ | hg1
      · have ht' : St.ev ⟨t', h⟩ (.tmp tg) = .sv (.raw (.bool b)) := by
          simp only [St.ev] at ht ⊢
          cases hl : t.lookup tg with
          | none => rw [hl] at hsome; cases hsome
          | some lv => rw [hl] at ht; rw [hs tg lv hl]; exact ht
        exact run_guard hog hgd ht' (fun he => absurd he hb) fun _ => next
      · split at hg1
        · rename_i t2 ht2
          have hm : t2 ∈ ds := by simpa using hg1
          exact run_guard_undef hog ht2 (by simp only [St.ev, hds t2 hm]; rfl) next
        · cases hg1

theorem RunL.app {l1 l2 : List (Oper × Nat)} {σ : St} (hr : RunL Γ ops l1 σ fun σ' => RunL Γ ops l2 σ' K) : RunL Γ ops (l1 ++ l2) σ K := by
  intro hd a w I
  simp only [List.all_append, Bool.and_eq_true] at hd
  exact wpP_app (wpP_mono (fun a' w' ⟨σ', h1, h2⟩ => h1 hd.2 a' w' h2) (hr hd.1 a w I))

theorem run_guarded {g tg : Nat} {want b : Bool} (hgd : (ops[g]?).bind (·.dst) = some tg) (hb : b = want) : ∀ (l1 : List (Oper × Nat)) (a : Act) (w : World),
    a.tmps.getD tg undef = .bool b → (∀ p ∈ l1, p.1.dst ≠ some tg) → ∀ {Q : Act → World → Prop}, wpP Γ.P ops Q (unguard g want l1) a w → wpP Γ.P ops Q l1 a w
  | [], _, _, _, _, _, h => h
  | (o, c) :: l1, a, w, hv, hd, Q, hw => by
    have next : ∀ (v : Value) (w1 : World), wpP Γ.P ops Q (unguard g want l1) (a.put o.dst v) w1 → wpP Γ.P ops Q l1 (a.put o.dst v) w1 := fun v w1 h => by
      refine run_guarded hgd hb l1 (a.put o.dst v) w1 ?_ (fun p hp => hd p (by simp [hp])) h
      have hne := hd (o, c) (by simp)
      cases hdst : o.dst with
      | none => exact hv
      | some d =>
        have hdt : d ≠ tg := fun e => hne (by rw [hdst, e])
        simp only [Act.put]
        rw [Array.getD_eq_getD_getElem?, Array.getElem?_setIfInBounds_ne hdt, ← Array.getD_eq_getD_getElem?]
        exact hv
    simp only [unguard, List.map_cons] at hw
    by_cases hog : o.guard = some (g, want)
    · have hv' : a.tmps[tg]?.getD undef = .bool b := by rw [← Array.getD_eq_getD_getElem?]; exact hv
      have hv2 : a.tmps[tg]? = some (.bool b) := by
        cases ht : a.tmps[tg]? with
        | none => rw [ht] at hv'; simp [undef] at hv'
        | some u => rw [ht] at hv'; simp at hv'; rw [hv']
      have hwt : Region.wanted o (yielded ops a.tmps) = true := by simp [Region.wanted, hog, yielded, hgd, hv2, hb]
      have hwu : ∀ t : Array Value, Region.wanted { o with guard := none } (yielded ops t) = true := fun t => wanted_none rfl _
      simp only [hog, BEq.rfl, Bool.and_self, if_true] at hw
      unfold wpP at hw ⊢
      split
      · rename_i hc
        rw [if_pos hc] at hw
        obtain ⟨v, h4, h5⟩ := hw
        refine ⟨v, ?_, next v w h5⟩
        rcases h4 with ⟨_, h4⟩ | ⟨h4, _⟩
        · exact .inl ⟨hwt, h4⟩
        · rw [hwu] at h4; cases h4
      · rename_i hc
        rw [if_neg hc, if_pos (hwu _)] at hw
        try rw [if_pos hwt]
        exact oN_mono (fun v w1 hk => ⟨hk.1, next v w1 hk.2⟩) hw
    · have ho : (match o.guard with | some (g', w) => if g' == g && w == want then ({ o with guard := none } : Oper) else o | none => o) = o := by
        cases hg : o.guard with
        | none => rfl
        | some gw =>
          obtain ⟨g', w'⟩ := gw
          have : (g' == g && w' == want) = false := by
            rw [Bool.and_eq_false_iff]
            by_cases h1 : g' = g
            · right; have : w' ≠ want := fun h2 => hog (by rw [hg, h1, h2]); simpa using this
            · left; simpa using h1
          simp [this]
      rw [ho] at hw
      unfold wpP at hw ⊢
      split
      · rename_i hc
        rw [if_pos hc] at hw
        obtain ⟨v, h4, h5⟩ := hw
        exact ⟨v, h4, next v w h5⟩
      · rename_i hc
        rw [if_neg hc] at hw
        split
        · rename_i hwt
          rw [if_pos hwt] at hw
          exact oN_mono (fun v w1 hk => ⟨hk.1, next v w1 hk.2⟩) hw
        · rename_i hwt
          rw [if_neg hwt] at hw
          exact next undef w hw

theorem freshT_ne {tg : Nat} : ∀ {l1 : List (Oper × Nat)}, freshT l1 t = true → (t.lookup tg).isSome = true → ∀ p ∈ l1, p.1.dst ≠ some tg
  | [], _, _, p, hp => by cases hp
  | (o, c) :: l1, hf, hs, p, hp => by
    simp only [freshT, Bool.and_eq_true] at hf
    rcases List.mem_cons.1 hp with rfl | hp
    · intro he
      rw [he] at hf
      simp only [Option.isNone_iff_eq_none] at hf
      rw [hf.1] at hs; cases hs
    · exact freshT_ne hf.2 hs p hp

theorem q_sc {g tg tp ty c m : Nat} {want b1 b2 : Bool} {x y : Operand} {ps : String} {af : Array Edge} {l1 rest : List (Oper × Nat)} (hgd : (ops[g]?).bind (·.dst) = some tg)
    (ht : St.ev ⟨t, h⟩ (.tmp tg) = .sv (.raw (.bool b1))) (hok : (guardedBy ops g want [] l1 && freshT l1 t && (t.lookup tg).isSome) = true)
    (hrun : b1 = want → RunL Γ ops (unguard g want l1) ⟨t, h⟩ fun σ' => σ'.h = h ∧ freshB m σ'.t = true ∧ σ'.t.drop m = t ∧ (if b1 then σ'.ev x else σ'.ev y) = .sv (.raw (.bool b2)))
    (hskip : b1 ≠ want → ∀ σ' : St, (if b1 then σ'.ev x else σ'.ev y) = .sv (.raw (.bool b1)))
    (hk : RunL Γ ops rest ⟨(tp, .sv (.raw (.bool (if b1 = want then b2 else b1)))) :: t, h⟩ K) :
    RunL Γ ops (l1 ++ (⟨some tp, .pick (.tmp tg) x y, ty, ps, af, none⟩, c) :: rest) ⟨t, h⟩ K := by
  simp only [Bool.and_eq_true] at hok
  obtain ⟨⟨hg, hf⟩, hsome⟩ := hok
  have pickOk : ∀ (t' : List (Nat × LV)) (b : Bool), SubT t t' → (if b1 then St.ev ⟨t', h⟩ x else St.ev ⟨t', h⟩ y) = .sv (.raw (.bool b)) → (if b1 = want then b2 else b1) = b →
      RunL Γ ops ((⟨some tp, .pick (.tmp tg) x y, ty, ps, af, none⟩, c) :: rest) ⟨t', h⟩ K := by
    intro t' b hs hxy hb
    have ht' : St.ev ⟨t', h⟩ (.tmp tg) = .sv (.raw (.bool b1)) := by
      simp only [St.ev] at ht ⊢
      cases hl : t.lookup tg with
      | none => rw [hl] at hsome; cases hsome
      | some lv => rw [hl] at ht; rw [hs tg lv hl]; exact ht
    have fin : RunL Γ ops rest ⟨(tp, .sv (.raw (.bool b))) :: t', h⟩ K := by
      rw [hb] at hk
      intro hd a w ⟨ρ, I⟩
      exact hk hd a w ⟨ρ, I.sub (hs.both tp _) (fun _ _ h => h)⟩
    refine q_pick ht' rfl rfl (fun hb1 => ?_) (fun hb1 => ?_)
    · rw [hb1] at hxy; simp only [if_true] at hxy; rw [hxy]; exact fin
    · rw [hb1] at hxy; simp only [Bool.false_eq_true, if_false] at hxy; rw [hxy]; exact fin
  by_cases hb : b1 = want
  · intro hd a w I
    simp only [List.all_append, Bool.and_eq_true] at hd
    have hun : ((unguard g want l1).all fun p => dstOk Γ p.1) = true := by
      rw [unguard, List.all_map]
      rw [List.all_eq_true] at hd ⊢
      intro p hp
      have := hd.1 p hp
      simp only [Function.comp]
      cases hg : p.1.guard with
      | none => exact this
      | some gw => obtain ⟨g', w'⟩ := gw; simp only; split <;> exact this
    have h1 := hrun hb hun a w I
    obtain ⟨ρ, I'⟩ := I
    refine wpP_app (run_guarded hgd hb l1 a w (ev_raw I' ht) (fun p hp => freshT_ne hf hsome p hp) (wpP_mono ?_ h1))
    rintro a' w' ⟨⟨t', h'⟩, ⟨e1, e2, e3, e4⟩, J⟩
    simp only at e1 e2 e3
    subst e1
    have hs : SubT t t' := by rw [← e3]; exact freshB_spec m t' e2
    exact pickOk t' b2 hs e4 (if_pos hb) hd.2 a' w' J
  · refine RunL.app (skip_all hgd hb l1 [] t (SubT.refl t) (fun d hd => by cases hd) ht hg hf hsome fun t'' hs => ?_)
    exact pickOk t'' b1 hs (hskip hb ⟨t'', h⟩) (if_neg hb)

theorem q_or (n m : Nat) {g tg tp ty c : Nat} {b1 b2 : Bool} {y : Operand} {ps : String} {af : Array Edge} {l rest : List (Oper × Nat)} (hl : l.drop n = (⟨some tp, .pick (.tmp tg) (.const (.bool true)) y, ty, ps, af, none⟩, c) :: rest) (_hg : l.head?.bind (fun p => p.1.guard) = some (g, false)) (hgd : (ops[g]?).bind (·.dst) = some tg)
    (ht : St.ev ⟨t, h⟩ (.tmp tg) = .sv (.raw (.bool b1))) (hok : (guardedBy ops g false [] (l.take n) && freshT (l.take n) t && (t.lookup tg).isSome) = true)
    (hrun : b1 = false → RunL Γ ops (unguard g false (l.take n)) ⟨t, h⟩ fun σ' => σ'.h = h ∧ freshB m σ'.t = true ∧ σ'.t.drop m = t ∧ σ'.ev y = .sv (.raw (.bool b2)))
    (hk : RunL Γ ops rest ⟨(tp, .sv (.raw (.bool (b1 || b2)))) :: t, h⟩ K) : RunL Γ ops l ⟨t, h⟩ K := by
  rw [← List.take_append_drop n l, hl]
  refine q_sc (want := false) (b1 := b1) (b2 := b2) (m := m) hgd ht hok (fun hb => ?_) (fun hb σ' => ?_) ?_
  · have := hrun hb; subst hb; simpa using this
  · have : b1 = true := by simpa using hb
    subst this; rfl
  · cases b1 <;> simpa using hk
theorem q_and (n m : Nat) {g tg tp ty c : Nat} {b1 b2 : Bool} {x : Operand} {ps : String} {af : Array Edge} {l rest : List (Oper × Nat)} (hl : l.drop n = (⟨some tp, .pick (.tmp tg) x (.const (.bool false)), ty, ps, af, none⟩, c) :: rest) (_hg : l.head?.bind (fun p => p.1.guard) = some (g, true)) (hgd : (ops[g]?).bind (·.dst) = some tg)
    (ht : St.ev ⟨t, h⟩ (.tmp tg) = .sv (.raw (.bool b1))) (hok : (guardedBy ops g true [] (l.take n) && freshT (l.take n) t && (t.lookup tg).isSome) = true)
    (hrun : b1 = true → RunL Γ ops (unguard g true (l.take n)) ⟨t, h⟩ fun σ' => σ'.h = h ∧ freshB m σ'.t = true ∧ σ'.t.drop m = t ∧ σ'.ev x = .sv (.raw (.bool b2)))
    (hk : RunL Γ ops rest ⟨(tp, .sv (.raw (.bool (b1 && b2)))) :: t, h⟩ K) : RunL Γ ops l ⟨t, h⟩ K := by
  rw [← List.take_append_drop n l, hl]
  refine q_sc (want := true) (b1 := b1) (b2 := b2) (m := m) hgd ht hok (fun hb => ?_) (fun hb σ' => ?_) ?_
  · have := hrun hb; subst hb; simpa using this
  · have : b1 = false := by simpa using hb
    subst this; rfl
  · cases b1 <;> simpa using hk
end

def leT : List (Nat × LV) → List (Nat × LV) → Prop
  | [], _ => True
  | (k, lv) :: r, t => t.lookup k = some lv ∧ leT r t
theorem leT_spec : ∀ {t' t : List (Nat × LV)}, leT t' t → SubT t' t
  | [], _, _ => fun k lv h => by simp at h
  | (k, lv) :: r, t, h => by
    intro k' lv' h'
    rw [List.lookup_cons] at h'
    by_cases hkk : k' = k
    · subst hkk; simp only [BEq.rfl, Option.some.injEq] at h'; subst h'; exact h.1
    · have : (k' == k) = false := by simpa using hkk
      simp only [this] at h'
      exact leT_spec h.2 k' lv' h'
theorem le_same {Γ : Ctx} {t' t : List (Nat × LV)} {h : List (Nat × Ent)} (ht : leT t' t) : Le Γ ⟨t', h⟩ ⟨t, h⟩ :=
  fun _ _ ⟨ρ, I⟩ => ⟨ρ, I.sub (leT_spec ht) fun _ _ h => h⟩

def leH : List (Nat × Ent) → List (Nat × Ent) → Prop
  | [], _ => True
  | (k, e) :: r, h => h.lookup k = some e ∧ leH r h
theorem leH_spec : ∀ {h' h : List (Nat × Ent)}, leH h' h → ∀ k e, h'.lookup k = some e → h.lookup k = some e
  | [], _, _ => fun k e h => by simp at h
  | (k, e) :: r, h, hh => by
    intro k' e' h'
    rw [List.lookup_cons] at h'
    by_cases hkk : k' = k
    · subst hkk; simp only [BEq.rfl, Option.some.injEq] at h'; subst h'; exact hh.1
    · have : (k' == k) = false := by simpa using hkk
      simp only [this] at h'
      exact leH_spec hh.2 k' e' h'
theorem le_sub {Γ : Ctx} {t' t : List (Nat × LV)} {h h' : List (Nat × Ent)} (ht : leT t' t) (hh : leH h' h) : Le Γ ⟨t', h'⟩ ⟨t, h⟩ :=
  fun _ _ ⟨ρ, I⟩ => ⟨ρ, I.sub (leT_spec ht) (leH_spec hh)⟩
@[reducible] def ctx (P : Program) (w0 : World) (O : Nat → Prop) (n : Nat) : Ctx := { P := P, w0 := w0, O := O, M := fun _ => False, inn := fun _ => none, n := n }

theorem fn_ok' {P : Program} {f : FuncId} {fn : Func} {c : Code} {rs : List Operand} {args : List SV} {r : SV} {n : Nat} {t0 : List (Nat × LV)} (hf : P.funcs[f]? = some fn) (hb : fn.body = some c) (hrs : resOps fn.results.toList = some rs) (hnt : fn.ntmps = n) (hn : args.length ≤ n)
    (ht : (args.zipIdx.map fun p => (p.2, LV.sv p.1)) = t0) (h : ∀ w0 O, Ok (ctx P w0 O n) c ⟨t0, []⟩ (endQ rs fun l => tupSV l = r)) : PFn P f args r := by
  subst hnt ht
  intro w O
  refine fn_ok_at hf hb hrs hn w O (h w O)
end Go.Abs

/- A map of ours, with whole numbers for keys. No condition. -/
namespace Go.Abs
open Go Go.RowKit Go.Eager

theorem findNow_int {kk : IntKind} (q : Int) : ∀ (en : List MapEntry) (es : List (Int × Value)) (i : Nat), en.map (fun e => (e.key, e.val)) = es.map (fun p => (Value.int kk p.1, p.2)) →
    ∃ r, Instr.findNow (.int kk) (.int kk q) en i = some r ∧ r.map (·.2) = es.lookup q
  | [], es, i, h => by
    have : es = [] := by cases es with | nil => rfl | cons a b => simp at h
    subst this
    exact ⟨none, rfl, rfl⟩
  | e :: en, [], i, h => by simp at h
  | e :: en, (x, v) :: es, i, h => by
    simp only [List.map_cons, List.cons.injEq, Prod.mk.injEq] at h
    obtain ⟨⟨h1, h2⟩, h3⟩ := h
    by_cases hq : q = x
    · subst hq
      exact ⟨some (i, e.val), by simp [Instr.findNow, Instr.sameNow, h1], by simp [h2]⟩
    · obtain ⟨r, h4, h5⟩ := findNow_int q en es (i + 1) h3
      refine ⟨r, ?_, ?_⟩
      · have hb : (q == x) = false := by simpa using hq
        simp [Instr.findNow, Instr.sameNow, h1, hb, h4]
      · have hb : (q == x) = false := by simpa using hq
        rw [List.lookup_cons, hb]; exact h5

theorem run_checkKey {P : Program} {t : TypeId} {kk : IntKind} (h : P.underlying t = some (.int kk)) (b : Bool) (q : Int) (w : World) : (Instr.checkKey b 10000 t (.int kk q)).run P w = .ok () w := by
  show (Instr.checkKey b (9999 + 1) t (.int kk q)).run P w = _
  unfold Instr.checkKey
  rw [Sem.run_bind, run_underlying h]
  rfl

def mpOf (P : Program) (t : TypeId) : Option (TypeId × TypeId × IntKind) := match P.underlying t with | some (.map k e) => (inkOf P k).map fun kk => (k, e, kk) | _ => none
theorem mpOf_spec {P : Program} {t k e : TypeId} {kk : IntKind} (h : mpOf P t = some (k, e, kk)) : P.underlying t = some (.map k e) ∧ P.underlying k = some (.int kk) := by
  unfold mpOf at h
  split at h
  · rename_i k' e' hu
    unfold inkOf at h
    split at h
    · rename_i q hq
      simp at h
      obtain ⟨rfl, rfl, rfl⟩ := h
      exact ⟨hu, hq⟩
    · simp at h
  · cases h
theorem run_zero {P : Program} {t : TypeId} {z : Value} (h : zeroOf P t = some z) (w : World) : (zeroValue t).run P w = .ok z w := by
  unfold zeroOf at h
  cases hi : P.info? t with
  | none => simp [hi] at h
  | some i => simp [hi] at h; simp [zeroValue, typeInfo, hi, h]

theorem run_getObj {P : Program} {w : World} {r : Nat} {en : Array MapEntry} {cl : Nat} (h : w.heap[r]? = some (.map en cl)) : (getObj r).run P w = .ok (.map en cl) w := by
  simp [getObj, Sem.run, h]
theorem run_setObj {P : Program} {w : World} {r : Nat} {en : Array MapEntry} {cl : Nat} {o : Obj} (h : w.heap[r]? = some (.map en cl)) : (setObj r o).run P w = .ok () { w with heap := w.heap.setIfInBounds r o } := by
  simp [setObj, Sem.run, h]

theorem run_findKey {P : Program} {w : World} {k : TypeId} {kk : IntKind} (hk : P.underlying k = some (.int kk)) {q : Int} {en : Array MapEntry} {es : List (Int × Value)} (h : en.toList.map (fun e => (e.key, e.val)) = es.map (fun p => (Value.int kk p.1, p.2))) :
    ∃ r, (Instr.findKey k (.int kk q) en.toList).run P w = .ok r w ∧ r.map (·.2) = es.lookup q := by
  obtain ⟨r, h1, h2⟩ := findNow_int (kk := kk) q en.toList es 0 h
  exact ⟨r, by simp [Instr.findKey, run_underlying hk, h1], h2⟩

section
variable {Γ : Ctx} {ops : Array Oper} {l : List (Oper × Nat)} {t : List (Nat × LV)} {h : List (Nat × Ent)} {K : St → Prop} {c d ty : Nat} {ps : String} {af : Array Edge} {x y z : Operand}

theorem q_mmap {S k e : Nat} {kk : IntKind} (_hm : mpOf Γ.P S = some (k, e, kk)) (hf : St.free ⟨t, h⟩ d = true) (hi : Γ.inn d = none) (hk : RunL Γ ops l ⟨(d, .own d) :: t, ins d (.map kk []) h⟩ K) :
    RunL Γ ops ((⟨some d, .makeMap S none, ty, ps, af, none⟩, c + 2) :: l) ⟨t, h⟩ K := by
  refine run_x (ext := True) rfl (by omega) (fun _ => trivial) fun a w ρ I hd => ?_
  have run : (execOp a.eval ⟨some d, .makeMap S none, ty, ps, af, none⟩).run Γ.P w = .ok (.value (.map (some w.heap.size))) (w.alloc (.map #[] 0)) := by
    simp [execOp, Instr.makeMap]
  unfold XOk oN
  rw [run]
  have I' := I.fresh (k := d) (e := .map kk []) (v' := .map (some w.heap.size)) (o := .map #[] 0) hf hi rfl ⟨w.heap.size, #[], 0, upd_at _ _ _, heap_alloc_new w _, rfl⟩
  refine ⟨_, hk, ⟨upd ρ d (.map (some w.heap.size)), ?_⟩, fun _ => alloc_ext w _⟩
  exact I'.put (d := some d) (lv := .own d) (v := .map (some w.heap.size)) (by simpa [dstOk] using hd) (upd_at _ _ _).symm

theorem q_mget {S k e m : Nat} {kk : IntKind} {q : Int} {es : List (Int × Value)} (zv v : Value) (hm : mpOf Γ.P S = some (k, e, kk)) (hz : zeroOf Γ.P e = some zv) (hx : St.ev ⟨t, h⟩ x = .own m) (hh : h.lookup m = some (.map kk es)) (hy : St.ev ⟨t, h⟩ y = .sv (.raw (.int kk q)))
    (hv : (es.lookup q).getD zv = v) (hk : RunL Γ ops l ⟨(d, .sv (.raw v)) :: t, h⟩ K) :
    RunL Γ ops ((⟨some d, .lookup S x y false, ty, ps, af, none⟩, c + 2) :: l) ⟨t, h⟩ K := by
  refine run_x (ext := True) rfl (by omega) (fun _ => trivial) fun a w ρ I hd => ?_
  obtain ⟨hu, hku⟩ := mpOf_spec hm
  obtain ⟨r, en, cl, h1, h2, h3⟩ := I.ent m _ hh
  have hX : a.eval x = .map (some r) := by have := I.ev x; rw [hx] at this; rw [show a.eval x = ρ m from this, h1]
  obtain ⟨res, h4, h5⟩ := run_findKey (P := Γ.P) (w := w) hku (q := q) h3
  have run : (execOp a.eval ⟨some d, .lookup S x y false, ty, ps, af, none⟩).run Γ.P w = .ok (.value v) w := by
    cases res with
    | none =>
      simp at h5
      rw [← h5] at hv
      simp at hv
      simp [execOp, hX, ev_raw I hy, Instr.lookup, run_underlying hu, run_getObj h2, run_checkKey hku, h4, run_zero hz, hv]
    | some p =>
      simp at h5
      rw [← h5] at hv
      simp at hv
      simp [execOp, hX, ev_raw I hy, Instr.lookup, run_underlying hu, run_getObj h2, run_checkKey hku, h4, hv]
  unfold XOk oN
  rw [run]
  exact ⟨_, hk, ⟨ρ, I.put (d := some d) (by simpa [dstOk] using hd) (Rep.raw v)⟩, fun _ => Ext.refl w⟩

theorem q_mput {S k e m : Nat} {kk : IntKind} {q : Int} {es : List (Int × Value)} (v : Value) (hm : mpOf Γ.P S = some (k, e, kk)) (hx : St.ev ⟨t, h⟩ x = .own m) (hh : h.lookup m = some (.map kk es)) (hy : St.ev ⟨t, h⟩ y = .sv (.raw (.int kk q))) (hz : St.ev ⟨t, h⟩ z = .sv (.raw v))
    (hv : es.lookup q = none) (hk : RunL Γ ops l ⟨t, ins m (.map kk (es ++ [(q, v)])) h⟩ K) :
    RunL Γ ops ((⟨none, .mapUpdate S x y z, ty, ps, af, none⟩, 2) :: l) ⟨t, h⟩ K := by
  refine run_x (ext := False) rfl (by omega) (fun h => (h rfl).elim) fun a w ρ I hd => ?_
  obtain ⟨hu, hku⟩ := mpOf_spec hm
  obtain ⟨r, en, cl, h1, h2, h3⟩ := I.ent m _ hh
  have hX : a.eval x = .map (some r) := by have := I.ev x; rw [hx] at this; rw [show a.eval x = ρ m from this, h1]
  obtain ⟨res, h4, h5⟩ := run_findKey (P := Γ.P) (w := w) hku (q := q) h3
  have hres : res = none := by cases res with | none => rfl | some p => rw [hv] at h5; simp at h5
  subst hres
  have hlt : r < w.heap.size := (Array.getElem?_eq_some_iff.1 h2).1
  have run : (execOp a.eval ⟨none, .mapUpdate S x y z, ty, ps, af, none⟩).run Γ.P w = .ok .skip { w with heap := w.heap.setIfInBounds r (.map (en.push { key := .int kk q, val := v, born := cl }) (cl + 1)) } := by
    simp [execOp, hX, ev_raw I hy, ev_raw I hz, Instr.mapUpdate, run_underlying hu, run_getObj h2, run_checkKey hku, h4, run_setObj h2]
  unfold XOk oN
  rw [run]
  have hbk : blk (ρ m) = some r := by rw [h1]; rfl
  refine ⟨_, hk, ⟨ρ, ?_⟩, fun h => h.elim⟩
  have J := I.heap (t' := t) (k := m) (e := .map kk (es ++ [(q, v)])) (v' := ρ m) (w' := { w with heap := w.heap.setIfInBounds r (.map (en.push { key := .int kk q, val := v, born := cl }) (cl + 1)) }) (fun t lv h => .inl h) (.inl rfl)
    ⟨rfl, rfl, rfl, by simp⟩ (fun b _ hne => by
      have hbr : r ≠ b := fun e => hne _ hh (by rw [hbk, e])
      simp [Array.getElem?_setIfInBounds_ne hbr]) (fun b hb => ⟨by simpa using (I.new m _ b hh hb).2, .inr ⟨_, hh, hb⟩⟩) (fun v hv => I.inn m v hv)
    (by rw [upd_self]; exact ⟨r, _, _, h1, by simp [hlt]; exact ⟨rfl, rfl⟩, by simp [h3]⟩)
  rw [upd_self] at J
  exact J
end
end Go.Abs

/- Arguments of whatever plain type, opened as plain values: numbers in range, lengths below 2^63. No condition beyond the types' own. -/
namespace Go.Abs
open Go Go.RowKit Go.Eager Go.ChangeShapes Go.WideShapes Go.Deep
set_option linter.unusedVariables false

def nobody : Nat → Prop := fun _ => False

def RC (w : World) (s : SV) (cs : List Value) : Prop := cs.length = s.cells.length ∧ ∀ (i : Nat) (q : SV) (u : Value), s.cells[i]? = some q → cs[i]? = some u → Rep w nobody q u ∧ u.oneCell' = true
def plain (s : SV) : Prop := (∃ l, s = .agg l) ∨ s.one = true

theorem cells_agg (l : List SV) : (SV.agg l).cells = l := rfl
theorem RC.agg {w : World} {l : List SV} {cs : List Value} (h : RC w (.agg l) cs) : Rep w nobody (.agg l) (.agg cs.toArray) :=
  Rep.agg l cs.toArray (by have := h.1; rw [cells_agg] at this; simpa using this) (fun i u hu => by
    have hu' : cs[i]? = some u := by simpa using hu
    have hlt : i < l.length := by have := h.1; have h2 := (List.getElem?_eq_some_iff.1 hu').1; rw [cells_agg] at this; omega
    exact (h.2 i l[i] u (List.getElem?_eq_getElem hlt) hu').2) fun i s u hs hu => (h.2 i s u hs (by simpa using hu)).1
theorem RC.one {w : World} {s : SV} {cs : List Value} (h : RC w s cs) (h1 : s.one = true) : ∃ u, cs = [u] ∧ Rep w nobody s u ∧ u.oneCell' = true := by
  have hc : s.cells = [s] := by cases s <;> simp [SV.one] at h1 <;> rfl
  have hl := h.1
  rw [hc] at hl
  match cs, hl with
  | [u], _ => exact ⟨u, rfl, h.2 0 s u (by rw [hc]; rfl) rfl⟩
theorem RC.mk1 {w : World} {s : SV} {u : Value} (h1 : s.one = true) (h : Rep w nobody s u) : RC w s [u] := by
  have hc : s.cells = [s] := by cases s <;> simp [SV.one] at h1 <;> rfl
  refine ⟨by rw [hc]; rfl, fun i q v hq hv => ?_⟩
  rw [hc] at hq
  have : i = 0 := by cases i with | zero => rfl | succ i => simp at hq
  subst this
  simp at hq hv
  subst hq hv
  exact ⟨h, h.oneCell h1⟩

def Opens {α : Type} (P : Program) (t : TypeId) (E : α → SV) (F : α → Prop) : Prop :=
  ∀ (H : Type) (enc : TypeId × Value → H) (w : World) (base : Nat) (spare : Nat → Bool) (held : Bool) (fuel : Nat) (cs : List Value) (x : DataW H × List MemPlace),
    DataW.trod enc P w base spare held fuel t cs = some x → ∃ y : α, RC w (E y) cs ∧ F y
def OpensFs {α : Type} (P : Program) (o n : Nat) (fs : List Field) (E : α → List SV) (F : α → Prop) : Prop :=
  ∀ (H : Type) (enc : TypeId × Value → H) (w : World) (base : Nat) (spare : Nat → Bool) (held : Bool) (fuel : Nat) (cs : List Value),
    (∀ f, f ∈ fs → ∃ x, DataW.trod enc P w base spare held fuel f.type ((cs.drop f.offset).take (P.cellsOf f.type)) = some x) → cs.length = o + n → ∃ y : α, RC w (.agg (E y)) (cs.drop o) ∧ F y

theorem op_int {P : Program} {t : TypeId} {k : IntKind} (h : P.underlying t = some (.int k)) : Opens P t (fun n => .raw (.int k n)) (fun n => (Lit.int k n).wf = true) := by
  intro H enc w base spare held fuel cs x hx
  obtain ⟨n, rfl, _, hw⟩ := DataW.trod_int h hx
  exact ⟨n, RC.mk1 rfl (.raw _), hw⟩
theorem op_string {P : Program} {t : TypeId} (h : P.underlying t = some .string) : Opens P t (fun s => .raw (.string s)) (fun s => s.size ≤ 9223372036854775807) := by
  intro H enc w base spare held fuel cs x hx
  obtain ⟨s, rfl, _, hs⟩ := DataW.trod_string h hx
  exact ⟨s, RC.mk1 rfl (.raw _), hs⟩
theorem get_of_family {α : Type} {n : Nat} (f : Nat → α) {j : Nat} {p : α} (h : ((List.range n).map f)[j]? = some p) : j < n ∧ f j = p := by
  rw [List.getElem?_map] at h
  obtain ⟨i, hi, rfl⟩ := Option.map_eq_some_iff.1 h
  obtain ⟨hl, he⟩ := List.getElem?_eq_some_iff.1 hi
  simp only [List.length_range] at hl
  simp only [List.getElem_range] at he
  subst he
  exact ⟨hl, rfl⟩
theorem choose_lt' {α : Type} [Inhabited α] (n : Nat) (p : Nat → α → Prop) (h : ∀ i, i < n → ∃ y, p i y) : ∃ f : Nat → α, ∀ i, i < n → p i (f i) := by
  classical
  refine ⟨fun i => if hi : i < n then Classical.choose (h i hi) else default, fun i hi => ?_⟩
  simp only [hi, dif_pos]
  exact Classical.choose_spec (h i hi)
theorem op_slice {P : Program} {t e : TypeId} {n : Nat} {α : Type} {E : α → SV} {F : α → Prop} (h : P.underlying t = some (.slice e)) (hc : P.cellsOf e = n) (hn : 0 < n) (hp : ∀ y, plain (E y) ∧ (E y).cells.length = n) (he : Opens P e E F) :
    Opens P t (fun xs : List α => .sl n (xs.map E)) (fun xs => xs.length ≤ 9223372036854775807 ∧ ∀ x, x ∈ xs → F x) := by
  intro H enc w base spare held fuel cs x hx
  rcases open_slice h hx with ⟨rfl, _⟩ | ⟨a, len, cap, m, k, D, Pl, rfl, _, hl, hm, hmm, _, hel⟩
  · exact ⟨[], RC.mk1 rfl (.nil _ _ _), Nat.zero_le _, fun x hx => by simp at hx⟩
  · have hle : len ≤ m := by rw [hmm]; split <;> omega
    have h1 : ∀ i, i < len → ∃ y : α, (∃ c, RC w (E y) c ∧ ∀ j u, c[j]? = some u → w.cell? (a.add (i * n + j)) = some u) ∧ F y := by
      intro i hi
      obtain ⟨cs', h2, h3⟩ := hel i (by omega)
      obtain ⟨y, hk, hf⟩ := he H enc w base spare held k cs' _ h3
      obtain ⟨_, hlen, hcell⟩ := World.cells?_some h2
      refine ⟨y, ⟨cs', hk, fun j u hj => ?_⟩, hf⟩
      have hjl : j < cs'.length := (List.getElem?_eq_some_iff.1 hj).1
      have h4 := hcell j (by omega)
      rw [Go.Deep.add_add, hc] at h4
      rw [h4, hj]
    cases len with
    | zero => exact ⟨[], RC.mk1 rfl (.nil _ _ _), Nat.zero_le _, fun x hx => by simp at hx⟩
    | succ len =>
      obtain ⟨y0, _⟩ := h1 0 (by omega)
      obtain ⟨f, hf⟩ := @choose_lt' α ⟨y0⟩ (len + 1) _ h1
      have hm' : len + 1 ≤ 9223372036854775807 := by unfold maxLen at hm; omega
      obtain ⟨c0, hc0, hcell0⟩ := (hf 0 (by omega)).1
      -- the address: no spot
      have hspot : a.spot = none ∨ 0 < n := .inr hn
      have hE : ∀ i, i < len + 1 → ∃ v : Value, Rep w nobody (E (f i)) v ∧ v.cells.size = n ∧ ∀ (j : Nat) (u : Value), v.cells[j]? = some u → w.cell? (a.add (i * n + j)) = some u := by
        intro i hi
        obtain ⟨c, hrc, hcell⟩ := (hf i hi).1
        obtain ⟨hpl, hsz⟩ := hp (f i)
        rcases hpl with ⟨l, hl'⟩ | h1'
        · rw [hl'] at hrc hsz ⊢
          exact ⟨_, hrc.agg, by rw [← hsz, ← hrc.1]; simp [Value.cells], fun j u hj => hcell j u (by simpa [Value.cells] using hj)⟩
        · obtain ⟨u, rfl, hr, ho⟩ := hrc.one h1'
          refine ⟨u, hr, by rw [oneCell_cells ho, ← hsz, ← hrc.1]; rfl, fun j v hj => ?_⟩
          rw [oneCell_cells ho] at hj
          exact hcell j v (by simpa using hj)
      have hsp : a = ⟨a.block, a.off, none⟩ := by
        obtain ⟨v, _, hs, hcl⟩ := hE 0 (by omega)
        have h0 : 0 < v.cells.size := by omega
        have h2 := hcl 0 _ (Array.getElem?_eq_getElem h0)
        simp only [Nat.zero_mul, Nat.add_zero] at h2
        have h3 : a.add 0 = a := by simp [Addr.add]
        rw [h3] at h2
        cases hsp : a.spot with
        | none => cases a; simp_all
        | some q => simp [World.cell?, hsp] at h2; split at h2 <;> simp at h2
      refine ⟨(List.range (len + 1)).map f, RC.mk1 rfl ?_, by simpa using hm', fun x hx => ?_⟩
      · have hn1 : len + 1 = (((List.range (len + 1)).map f).map E).length := by simp
        obtain ⟨vf, hvf⟩ := choose_lt' (α := Value) (len + 1) _ hE
        have e1 : (Value.slice (some a) (len + 1) cap) = .slice (some ⟨a.block, a.off, none⟩) (((List.range (len + 1)).map f).map E).length cap := by rw [← hn1, ← hsp]
        rw [e1]
        refine Rep.sl n _ a.block a.off cap vf (fun h => h) (by simp) (by rw [← hn1]; exact hl) hn ?_ ?_ ?_
        · intro i s hi
          rw [List.getElem?_map] at hi
          obtain ⟨y, hy, rfl⟩ := Option.map_eq_some_iff.1 hi
          obtain ⟨hi1, rfl⟩ := get_of_family f hy
          exact (hvf i hi1).1
        · intro i hi; exact (hvf i (by simpa using hi)).2.1
        · intro i hi j u hu
          have h3 := (hvf i (by simpa using hi)).2.2 j u hu
          have h4 : a.add (i * n + j) = ⟨a.block, a.off + i * n + j, none⟩ := by rw [hsp]; rw [addr_add]; simp [Nat.add_assoc]
          rw [← h4]; exact h3
      · obtain ⟨i, hi, rfl⟩ := List.mem_map.1 hx
        exact (hf i (by simpa using hi)).2

theorem ofs_nil {P : Program} {o : Nat} : OpensFs P o 0 [] (fun _ : Unit => []) (fun _ => True) := by
  intro H enc w base spare held fuel cs hx hl
  refine ⟨(), ⟨by simp [SV.cells]; omega, fun i q u hq _ => by simp [SV.cells] at hq⟩, trivial⟩
theorem ofs_cons {P : Program} {o n m : Nat} {f : Field} {fs : List Field} {α β : Type} {E : α → SV} {G : β → List SV} {F : α → Prop} {J : β → Prop} (ho : f.offset = o) (hc : P.cellsOf f.type = n) (hp : ∀ y, plain (E y) ∧ (E y).cells.length = n) (h : Opens P f.type E F) (hs : OpensFs P (o + n) m fs G J) :
    OpensFs P o (n + m) (f :: fs) (fun y : α × β => (E y.1).cells ++ G y.2) (fun y => F y.1 ∧ J y.2) := by
  intro H enc w base spare held fuel cs hx hl
  obtain ⟨x, h1⟩ := hx f List.mem_cons_self
  obtain ⟨y, hk, hf⟩ := h H enc w base spare held fuel _ x h1
  obtain ⟨z, hkz, hg⟩ := hs H enc w base spare held fuel cs (fun f' hf' => hx f' (List.mem_cons_of_mem _ hf')) (by omega)
  rw [ho, hc] at hk
  obtain ⟨hp1, hp2⟩ := hp y
  refine ⟨(y, z), (?_ : RC w (.agg ((E y).cells ++ G z)) (cs.drop o)), hf, hg⟩
  refine ⟨?_, fun i q u hq hu => ?_⟩
  · have h2 := hkz.1
    rw [cells_agg] at h2 ⊢
    rw [List.length_append, hp2, List.length_drop]
    rw [List.length_drop] at h2
    omega
  · rw [cells_agg] at hq
    by_cases hi : i < n
    · rw [List.getElem?_append_left (by omega)] at hq
      refine hk.2 i q u hq ?_
      rw [List.getElem?_take, if_pos hi]; exact hu
    · rw [List.getElem?_append_right (by omega), hp2] at hq
      refine hkz.2 (i - n) q u hq ?_
      rw [List.getElem?_drop] at hu ⊢
      rw [← hu]; congr 1; omega
theorem op_struct {P : Program} {t : TypeId} {n : Nat} {fs : Array Field} {α : Type} {E : α → List SV} {F : α → Prop} (h : P.underlying t = some (.struct fs)) (hc : P.cellsOf t = n) (hs : OpensFs P 0 n fs.toList E F) : Opens P t (fun y => .agg (E y)) F := by
  intro H enc w base spare held fuel cs x hx
  obtain ⟨xs, m, _, _, hl, hlen, hf⟩ := DataW.trod_struct h hx
  obtain ⟨y, hk, hg⟩ := hs H enc w base spare held m cs (fun f hm => by
    obtain ⟨i, hi⟩ := List.getElem?_of_mem hm
    have h1 := hf i f (by rw [← Array.getElem?_toList]; exact hi)
    have h2 : i < fs.toList.length := (List.getElem?_eq_some_iff.1 hi).1
    rw [Array.length_toList] at h2
    have h3 : i < xs.length := by rw [hlen]; exact h2
    rw [List.getElem?_eq_getElem h3] at h1
    exact ⟨_, h1⟩) (by rw [hl, hc, Nat.zero_add])
  exact ⟨y, by simpa using hk, hg⟩
theorem op_iso {P : Program} {t : TypeId} {α β : Type} {E : α → SV} {F : α → Prop} {E' : β → SV} {F' : β → Prop} (f : α → β) (hE : ∀ x, E x = E' (f x)) (hF : ∀ x, F x → F' (f x)) (h : Opens P t E F) : Opens P t E' F' := by
  intro H enc w base spare held fuel cs x hx
  obtain ⟨y, hk, hf⟩ := h H enc w base spare held fuel cs x hx
  exact ⟨f y, by rw [← hE]; exact hk, hF y hf⟩
theorem op_arg {P : Program} {t : TypeId} {α : Type} {E : α → SV} {F : α → Prop} (h : Opens P t E F) {H : Type} {enc : TypeId × Value → H} {w : World} {base : Nat} {spare : Nat → Bool} {held : Bool} {v : Value} {x : DataW H} {ps : List MemPlace}
    (hx : DataW.Trod enc P w base spare held t v x ps) : ∃ y : α, RC w (E y) v.cells.toList ∧ F y := by
  obtain ⟨fuel, hf⟩ := hx
  exact h H enc w base spare held fuel _ _ hf
theorem arg_agg {P : Program} {w : World} {r : Reach} {base : Nat} {t : TypeId} {v : Value} {fs : Array Field} {l : List SV} (ht : P.underlying t = some (.struct fs)) (h : Value.okWide P w r base t v) (hr : RC w (.agg l) v.cells.toList) : Rep w nobody (.agg l) v := by
  obtain ⟨cs, rfl, _⟩ := okWide_struct ht h
  have := hr.agg
  simpa [Value.cells] using this
theorem reps_nil {w : World} {O : Nat → Prop} : ∀ (i : Nat) (s : SV) (u : Value), ([] : List SV)[i]? = some s → ([] : List Value)[i]? = some u → Rep w O s u := fun i s u h => by simp at h
theorem reps_cons {w : World} {O : Nat → Prop} {s : SV} {u : Value} {l : List SV} {vs : List Value} (h : Rep w O s u) (hs : ∀ (i : Nat) (s : SV) (u : Value), l[i]? = some s → vs[i]? = some u → Rep w O s u) :
    ∀ (i : Nat) (s' : SV) (u' : Value), (s :: l)[i]? = some s' → (u :: vs)[i]? = some u' → Rep w O s' u'
  | 0, s', u', h1, h2 => by simp at h1 h2; subst h1 h2; exact h
  | i + 1, s', u', h1, h2 => hs i s' u' (by simpa using h1) (by simpa using h2)
theorem pfn_call {P : Program} {f : FuncId} {args : List SV} {r : SV} (h : PFn P f args r) (w : World) (vs : List Value) (hl : vs.length = args.length) (hr : ∀ (i : Nat) (s : SV) (u : Value), args[i]? = some s → vs[i]? = some u → Rep w nobody s u) :
    Calls P f vs.toArray w fun e w' => ∃ v, e = .returned v ∧ Ext w w' ∧ Rep w' nobody r v :=
  h w nobody vs.toArray (fun b h => h.elim) (by simpa using hl) (fun i s u hs hu => hr i s u hs (by simpa using hu))
theorem rep_raw {w : World} {O : Nat → Prop} {v u : Value} (h : Rep w O (.raw u) v) : v = u := by cases h; rfl
end Go.Abs

/- Results that are read from a box of the function's own. No condition. -/
namespace Go.Abs
open Go Go.RowKit Go.Eager
set_option linter.unusedVariables false
def ResOne (P : Program) (σ : St) (r : ResultVar) (s : SV) : Prop :=
  match r with
  | .tmp t => lend σ.h (σ.ev (.tmp t)) = some s
  | .cell t T => stepR P σ (.load T (.tmp t)) fun lv => lend σ.h lv = some s
def ResL (P : Program) (σ : St) : List ResultVar → List SV → Prop
  | [], l => l = []
  | r :: rs, l => ∃ s l', ResOne P σ r s ∧ ResL P σ rs l' ∧ l = s :: l'
def endR (P : Program) (rs : List ResultVar) (R : List SV → Prop) : Exit → St → Prop
  | .normal, σ | .ret, σ => ∃ l, ResL P σ rs l ∧ R l
  | _, _ => False
theorem loadVar_of_loadAt {P : Program} {T : TypeId} {v u : Value} {w : World} (h : (Instr.loadAt T v).run P w = .ok u w) : (do loadVar T (← asAddr v)).run P w = .ok u w := by
  cases v with
  | pointer p =>
    cases p with
    | none => simp [Instr.loadAt, Instr.sureAddr] at h
    | some a => simpa [Instr.loadAt, Instr.sureAddr, asAddr] using h
  | _ => simp [Instr.loadAt, Instr.sureAddr] at h
section
variable {Γ : Ctx} {σ : St} {ρ : Nat → Value} {a : Act} {w : World}
def resRun (tmps : Array Value) : ResultVar → Sem Value
  | .tmp t => pure (tmps.getD t undef)
  | .cell a t => do loadVar t (← asAddr (tmps.getD a undef))
theorem run_resone (I : Iv Γ σ ρ a w) {r : ResultVar} {s : SV} (h : ResOne Γ.P σ r s) : ∃ u, (resRun a.tmps r).run Γ.P w = .ok u w ∧ Rep w Γ.O s u := by
  cases r with
  | tmp t => exact ⟨a.eval (.tmp t), by simp [resRun, Act.eval], lend_rep I (I.ev (.tmp t)) h⟩
  | cell t T =>
    obtain ⟨lv, v, h1, h2, h3⟩ := stepR_sound (o := ⟨none, .load T (.tmp t), 0, "", #[], none⟩) (a := a) (w := w) (K := fun lv => lend σ.h lv = some s) I (by exact h)
    refine ⟨v, loadVar_of_loadAt ?_, lend_rep I h2 h1⟩
    have := h3 w (Ext.refl w)
    have e : (execOp a.eval ⟨none, .load T (.tmp t), 0, "", #[], none⟩).run Γ.P w = ((Instr.loadAt T (a.tmps.getD t undef)).run Γ.P w).andThen fun v w' => .ok (.value v) w' := by simp [execOp, Act.eval]
    rw [e] at this
    cases hl : (Instr.loadAt T (a.tmps.getD t undef)).run Γ.P w with
    | ok u w' => rw [hl] at this; simp [Result.andThen] at this; obtain ⟨rfl, rfl⟩ := this; rfl
    | _ => rw [hl] at this; simp [Result.andThen] at this
theorem run_resl (I : Iv Γ σ ρ a w) {rs : List ResultVar} {l : List SV} (h : ResL Γ.P σ rs l) (fn : Func) (hrs : fn.results.toList = rs) :
    ∃ vs : Array Value, vs.size = l.length ∧ (results fn a.tmps).run Γ.P w = .ok (if h : vs.size = 1 then vs[0] else .tuple vs) w ∧ ∀ (i : Nat) (s : SV) (u : Value), l[i]? = some s → vs[i]? = some u → Rep w Γ.O s u := by
  have key : ∀ (rs : List ResultVar) (l : List SV) (acc : Array Value), ResL Γ.P σ rs l → ∃ vs : List Value, vs.length = l.length ∧ (List.foldlM (fun (bs : Array Value) r => bs.push <$> resRun a.tmps r) acc rs : Sem (Array Value)).run Γ.P w = .ok (acc ++ vs.toArray) w ∧
      ∀ (i : Nat) (s : SV) (u : Value), l[i]? = some s → vs[i]? = some u → Rep w Γ.O s u := by
    intro rs
    induction rs with
    | nil => intro l acc h; simp only [ResL] at h; subst h; exact ⟨[], rfl, by simp, fun i s u h => by simp at h⟩
    | cons r rs ih =>
      intro l acc h
      obtain ⟨s, l', h1, h2, rfl⟩ := h
      obtain ⟨u, hu, hr⟩ := run_resone I h1
      obtain ⟨vs, h3, h4, h5⟩ := ih l' (acc.push u) h2
      refine ⟨u :: vs, by simp [h3], ?_, fun i s' u' hs hu' => ?_⟩
      · simp only [List.foldlM_cons, Sem.run_bind]
        have e : (acc.push <$> resRun a.tmps r).run Γ.P w = .ok (acc.push u) w := by simp [hu]
        rw [e]
        simp only [Result.andThen]
        rw [h4]; simp
      · cases i with
        | zero => simp at hs hu'; subst hs hu'; exact hr
        | succ i => exact h5 i s' u' (by simpa using hs) (by simpa using hu')
  obtain ⟨vs, h1, h2, h3⟩ := key rs l #[] h
  refine ⟨vs.toArray, by simp [h1], ?_, fun i s u hs hu => h3 i s u hs (by simpa using hu)⟩
  unfold results
  rw [Array.mapM_eq_foldlM, ← Array.foldlM_toList, hrs]
  simp only [Sem.run_bind]
  refine Eq.trans (congrArg (fun x => Result.andThen x fun vs w' => (pure (if h : vs.size = 1 then vs[0] else .tuple vs) : Sem Value).run Γ.P w') (?_ : _ = (List.foldlM (fun (bs : Array Value) r => bs.push <$> resRun a.tmps r) #[] rs : Sem (Array Value)).run Γ.P w)) ?_
  · congr 1
  · rw [h2]; simp
end
section
theorem fnr_ok_at {P : Program} {f : FuncId} {fn : Func} {c : Code} {rs : List ResultVar} {args : List SV} {r : SV} (hf : P.funcs[f]? = some fn) (hb : fn.body = some c) (hrs : fn.results.toList = rs) (hn : args.length ≤ fn.ntmps)
    (w : World) (O : Nat → Prop) (h : Ok { P := P, w0 := w, O := O, M := fun _ => False, inn := fun _ => none, n := fn.ntmps } c ⟨args.zipIdx.map fun p => (p.2, .sv p.1), []⟩ (endR P rs fun l => tupSV l = r)) (vs : Array Value) (hO : ∀ b, O b → b < w.heap.size) (hvs : vs.size = args.length)
    (hrep : ∀ (i : Nat) (s : SV) (u : Value), args[i]? = some s → vs[i]? = some u → Rep w O s u) : Calls P f vs w fun e w' => ∃ v, e = .returned v ∧ Ext w w' ∧ Rep w' O r v := by
  refine calls_of_wp hf hb ?_
  let Γ : Ctx := { P := P, w0 := w, O := O, M := fun _ => False, inn := fun _ => none, n := fn.ntmps }
  have hlk : ∀ (l : List SV) (k t : Nat) (lv : LV), ((l.zipIdx k).map fun p => (p.2, LV.sv p.1)).lookup t = some lv → ∃ s, l[t - k]? = some s ∧ lv = .sv s ∧ k ≤ t := by
    intro l
    induction l with
    | nil => intro k t lv h; simp at h
    | cons s l ih =>
      intro k t lv h
      simp only [List.zipIdx_cons, List.map_cons, List.lookup_cons] at h
      by_cases ht : t = k
      · subst ht; simp at h; exact ⟨s, by simp, h.symm, Nat.le_refl _⟩
      · have : (t == k) = false := by simpa using ht
        simp only [this] at h
        obtain ⟨s', h1, h2, h3⟩ := ih (k + 1) t lv h
        refine ⟨s', ?_, h2, by omega⟩
        rw [show t - k = (t - (k + 1)) + 1 by omega]; simpa using h1
  have I : Inv Γ ⟨args.zipIdx.map fun p => (p.2, .sv p.1), []⟩ { tmps := vs ++ Array.replicate (fn.ntmps - vs.size) undef, defers := [] } w := by
    refine ⟨fun _ => undef, ⟨rfl, by simp [Γ]; omega, ⟨rfl, rfl, rfl, Nat.le_refl _, fun _ _ _ => rfl⟩, ?_, ?_, ?_, ?_, fun b hb => ⟨hO b hb, fun h => h⟩, ?_⟩⟩
    · intro t lv ht
      obtain ⟨s, h1, rfl, _⟩ := hlk args 0 t lv ht
      have hlt : t < vs.size := by rw [hvs]; simpa using (List.getElem?_eq_some_iff.1 h1).1
      have hu : vs[t]? = some vs[t] := Array.getElem?_eq_getElem hlt
      have h2 := hrep t s _ (by simpa using h1) hu
      have h3 : (vs ++ Array.replicate (fn.ntmps - vs.size) undef).getD t undef = vs[t] := by
        rw [Array.getD_eq_getD_getElem?, Array.getElem?_append_left hlt, hu]; rfl
      show Rep w _ s _
      rw [h3]
      exact Rep.kp h2 fun b _ hno => ⟨rfl, fun h => by
        rcases h with h | ⟨k, e, hk, _⟩
        · exact hno h
        · simp at hk⟩
    · intro k e hk; simp at hk
    · intro k e b hk; simp at hk
    · intro k k' e e' b hk; simp at hk
    · intro k v hv; simp [Γ] at hv
  refine wp_mono (h _ w I) ?_
  rintro e a' w' ⟨σ', hq, ρ, J⟩
  have fin : (∃ l, ResL P σ' rs l ∧ tupSV l = r) → a'.defers = [] ∧ ∃ v, (results fn a'.tmps).run P w' = .ok v w' ∧ ∃ v', Ending.returned v = .returned v' ∧ Ext w w' ∧ Rep w' O r v' := by
    rintro ⟨l, hl, rfl⟩
    obtain ⟨vs', hv1, hv2, hv3⟩ := run_resl J hl fn hrs
    exact ⟨J.dfr, _, hv2, _, rfl, ⟨J.frm.os, J.frm.tape, J.frm.output, J.frm.size, fun b hb => J.frm.block b hb (fun h => h)⟩, tup_rep hv1 hv3⟩
  cases e with
  | normal => exact fin hq
  | ret => exact fin hq
  | _ => exact hq.elim

theorem fnr_ok {P : Program} {f : FuncId} {fn : Func} {c : Code} {rs : List ResultVar} {args : List SV} {r : SV} {n : Nat} {t0 : List (Nat × LV)} (hf : P.funcs[f]? = some fn) (hb : fn.body = some c) (hrs : fn.results.toList = rs) (hnt : fn.ntmps = n) (hn : args.length ≤ n)
    (ht : (args.zipIdx.map fun p => (p.2, LV.sv p.1)) = t0) (h : ∀ w0 O, Ok (ctx P w0 O n) c ⟨t0, []⟩ (endR P rs fun l => tupSV l = r)) : PFn P f args r := by
  subst hnt ht
  intro w O
  refine fnr_ok_at hf hb hrs hn w O (h w O)
theorem res_cells {P : Program} {σ : St} {t T k : Nat} {cells : List LV} {l : List SV} (hx : St.ev σ (.tmp t) = .ptr k 0) (hh : σ.h.lookup k = some (.box cells)) (hg : aggOf P T = some true) (hs : szOf P T = some l.length) (hc : cells = l.map .sv) : ResOne P σ (.cell t T) (.agg l) := by
  simp only [ResOne, stepR, hx]
  refine ⟨cells, hh, true, hg, (fun h => by cases h), fun _ => ⟨_, hs, l, ?_, rfl, rfl⟩⟩
  subst hc
  have : ∀ l : List SV, svs (l.map .sv) = some l := by
    intro l; induction l with
    | nil => rfl
    | cons s l ih => simp [svs, ih]
  simp [this, List.take_of_length_le]
theorem ret_cell {P : Program} {σ : St} {t T k : Nat} {cells : List LV} {l : List SV} {r : SV} (hx : St.ev σ (.tmp t) = .ptr k 0) (hh : σ.h.lookup k = some (.box cells)) (hg : aggOf P T = some true) (hs : szOf P T = some l.length) (hc : cells = l.map .sv) (hr : SV.agg l = r) : endR P [.cell t T] (fun l => tupSV l = r) .ret σ :=
  ⟨[.agg l], ⟨_, _, res_cells hx hh hg hs hc, rfl, rfl⟩, hr⟩
end
end Go.Abs

/- Plain values' names, and what is told of sizes, of rows that are filled. No condition. -/
namespace Go.Ring
open Go Go.RowKit Go.Eager Go.Abs
set_option linter.unusedVariables false
@[reducible] def int (x : Int) : SV := .raw (.int .i64 x)
@[reducible] def byt (b : UInt8) : SV := .raw (.int .u8 b.toNat)
@[reducible] def str (s : ByteArray) : SV := .raw (.string s)
@[reducible] def bool (b : Bool) : SV := .raw (.bool b)
@[reducible] def ints (l : List Int) : SV := .sl 1 (l.map int)
open Classical in
noncomputable def pB (p : Prop) : Bool := decide p
theorem pB_true {p : Prop} (h : p) : pB p = true := by simp [pB, h]
theorem pB_false {p : Prop} (h : ¬ p) : pB p = false := by simp [pB, h]
theorem of_pB {p : Prop} (h : pB p = true) : p := by simpa [pB] using h
theorem mget {α : Type} {f : α → SV} {l : List α} {i : Nat} {n : α} (h : l[i]? = some n) : (l.map f)[i]? = some (f n) := by rw [List.getElem?_map, h]; rfl
theorem sget {α : Type} {l : List α} {i : Nat} (h : i < l.length) : ∃ x, l[i]? = some x := ⟨_, List.getElem?_eq_getElem h⟩
theorem smem {α : Type} {l : List α} {i : Nat} {x : α} (h : l[i]? = some x) : x ∈ l := List.mem_of_getElem? h
theorem slt {α : Type} {l : List α} {i : Nat} {x : α} (h : l[i]? = some x) : i < l.length := (List.getElem?_eq_some_iff.1 h).1
def take (n m : Int) : Int := if n - m < 0 then -1 else n - m
def LB (l : Nat) : Prop := l ≤ 9223372036854775807
def GOk (f : Int → Int) (S : Prop) : Prop := ∀ n, n ≤ 1048576 → f n ≤ 1048576 ∧ (f n < 0 → f n = -1) ∧ (0 ≤ f n → S)
theorem take_ok (m : Nat) : GOk (fun n => take n m) (m ≤ 1048576) := by
  intro n hn; simp only [take]; split <;> refine ⟨?_, ?_, ?_⟩ <;> omega
def stp (f g : Int → Int) (n : Int) : Int := if f n < 0 then -1 else g (f n)
theorem stp_ok {f g : Int → Int} {A B : Prop} (hf : GOk f A) (hg : GOk g B) : GOk (stp f g) (A ∧ B) := by
  intro n hn
  obtain ⟨h1, h2, h3⟩ := hf n hn
  obtain ⟨h4, h5, h6⟩ := hg _ h1
  unfold stp
  split
  · refine ⟨by omega, fun _ => rfl, fun h => by omega⟩
  · exact ⟨h4, h5, fun h => ⟨h3 (by omega), h6 h⟩⟩
theorem GOk.mono {f : Int → Int} {A B : Prop} (h : GOk f A) (hab : A → B) : GOk f B := fun n hn => ⟨(h n hn).1, (h n hn).2.1, fun h' => hab ((h n hn).2.2 h')⟩
theorem take_pos {n m : Int} (h : n - m < 0) : take n m = -1 := by unfold take; rw [if_pos h]
theorem take_neg {n m : Int} (h : ¬ n - m < 0) : take n m = n - m := by unfold take; rw [if_neg h]
theorem stp_pos {f g : Int → Int} {n : Int} (h : f n < 0) : stp f g n = -1 := by unfold stp; rw [if_pos h]
theorem stp_neg {f g : Int → Int} {n : Int} (h : ¬ f n < 0) : stp f g n = g (f n) := by unfold stp; rw [if_neg h]
def szAll {α : Type} (f : α → Int → Int) : List α → Int → Int
  | [], n => n
  | x :: l, n => if f x n < 0 then -1 else szAll f l (f x n)
theorem szAll_cons {α : Type} (f : α → Int → Int) {l : List α} {k : Nat} {x : α} (h : l[k]? = some x) (n : Int) : szAll f (l.drop k) n = if f x n < 0 then -1 else szAll f (l.drop (k + 1)) (f x n) := by
  obtain ⟨hlt, he⟩ := List.getElem?_eq_some_iff.1 h
  rw [List.drop_eq_getElem_cons hlt, he]; rfl
theorem szAll_end {α : Type} (f : α → Int → Int) {l : List α} {k : Nat} (h : l.length ≤ k) (n : Int) : szAll f (l.drop k) n = n := by rw [List.drop_of_length_le h]; rfl
def szSl {α : Type} (f : α → Int → Int) (l : List α) (n : Int) : Int := if take n l.length < 0 then -1 else szAll f l (take n l.length)
theorem szSl_pos {α : Type} {f : α → Int → Int} {l : List α} {n : Int} (h : n - l.length < 0) : szSl f l n = -1 := by unfold szSl; rw [take_pos h]; rfl
theorem szSl_neg {α : Type} {f : α → Int → Int} {l : List α} {n : Int} (h : ¬ n - l.length < 0) : szSl f l n = szAll f l (n - l.length) := by unfold szSl; rw [take_neg h, if_neg h]
theorem szAll_le {α : Type} {f : α → Int → Int} {S : α → Prop} (hf : ∀ x, GOk (f x) (S x)) : ∀ (l : List α) (n : Int), n ≤ 1048576 → szAll f l n ≤ 1048576 ∧ (szAll f l n < 0 → n < 0 ∨ szAll f l n = -1) ∧ (0 ≤ szAll f l n → ∀ x ∈ l, S x)
  | [], n, hn => ⟨hn, fun h => .inl h, fun _ x hx => by simp at hx⟩
  | y :: l, n, hn => by
    obtain ⟨h1, h2, h3⟩ := hf y n hn
    obtain ⟨h4, h5, h6⟩ := szAll_le hf l _ h1
    unfold szAll
    split
    · exact ⟨by omega, fun _ => .inr rfl, fun h => by omega⟩
    · rename_i hy
      refine ⟨h4, fun h => .inr ((h5 h).resolve_left hy), fun h x hx => ?_⟩
      rcases List.mem_cons.1 hx with rfl | hx
      · exact h3 (by omega)
      · exact h6 h x hx
theorem szSl_ok {α : Type} {f : α → Int → Int} {S : α → Prop} (hf : ∀ x, GOk (f x) (S x)) (l : List α) : GOk (szSl f l) (l.length ≤ 1048576 ∧ ∀ x ∈ l, S x) := by
  intro n hn
  by_cases h : n - l.length < 0
  · rw [szSl_pos h]; refine ⟨by omega, fun _ => rfl, fun h => by omega⟩
  · rw [szSl_neg h]
    obtain ⟨h4, h5, h6⟩ := szAll_le hf l (n - l.length) (by omega)
    exact ⟨h4, fun h' => (h5 h').resolve_left h, fun h' => ⟨by omega, h6 h'⟩⟩

def fill {α : Type} (f : α → SV) (z : SV) (xs : List α) (k : Nat) : List SV := (xs.take k).map f ++ List.replicate (xs.length - k) z
theorem fill_zero {α : Type} (f : α → SV) (z : SV) (xs : List α) : fill f z xs 0 = List.replicate xs.length z := by simp [fill]
theorem fill_all {α : Type} (f : α → SV) (z : SV) (xs : List α) {k : Nat} (h : xs.length ≤ k) : fill f z xs k = xs.map f := by simp [fill, List.take_of_length_le h, Nat.sub_eq_zero_of_le h]
theorem fill_len {α : Type} (f : α → SV) (z : SV) (xs : List α) {k : Nat} (h : k ≤ xs.length) : (fill f z xs k).length = xs.length := by simp [fill]; omega
theorem fill_get {α : Type} (f : α → SV) (z : SV) (xs : List α) {k : Nat} (h : k < xs.length) : (fill f z xs k)[k]? = some z := by
  unfold fill
  rw [List.getElem?_append_right (by simp; omega), List.getElem?_replicate, if_pos (by simp; omega)]
theorem fill_set {α : Type} (f : α → SV) (z : SV) {xs : List α} {k : Nat} {x : α} (h : xs[k]? = some x) : (fill f z xs k).set k (f x) = fill f z xs (k + 1) := by
  have hlt := slt h
  unfold fill
  rw [List.set_append_right _ _ (by simp; omega), List.take_add_one, h, List.map_append, List.append_assoc]
  congr 1
  rw [show k - ((xs.take k).map f).length = 0 by simp; omega, show xs.length - k = (xs.length - (k + 1)) + 1 by omega, List.replicate_succ]
  rfl
end Go.Ring

/- A row or a map of ours that got a new name in a round of a loop: the old name again. No condition. -/
namespace Go.Abs
open Go Go.RowKit Go.Eager
set_option linter.unusedVariables false
def unr (d K0 : Nat) : LV → LV
  | .own j => if j = K0 then .own d else .own j
  | lv => lv
def unrT (d K0 : Nat) : List (Nat × LV) → List (Nat × LV)
  | [] => []
  | (t, lv) :: l => (t, unr d K0 lv) :: unrT d K0 l
def unrH (d K0 : Nat) : List (Nat × Ent) → List (Nat × Ent)
  | [] => []
  | (k, e) :: l => (if k = K0 then d else k, e) :: unrH d K0 l
theorem unrT_lookup {d K0 : Nat} : ∀ {l : List (Nat × LV)} {t : Nat} {lv : LV}, l.lookup t = some lv → (unrT d K0 l).lookup t = some (unr d K0 lv)
  | [], _, _, h => by simp at h
  | (t', lv') :: l, t, lv, h => by
    rw [List.lookup_cons] at h
    rw [unrT, List.lookup_cons]
    by_cases ht : t = t'
    · subst ht; simp at h ⊢; rw [h]
    · have : (t == t') = false := by simpa using ht
      simp only [this] at h ⊢
      exact unrT_lookup h
theorem le_rek {Γ : Ctx} (K0 d : Nat) {e : Ent} {t' t : List (Nat × LV)} {h' h : List (Nat × Ent)} (ht : leT (unrT d K0 t') t) (hh : leH (unrH d K0 h') h) (hf : St.free ⟨unrT d K0 t', unrH d K0 h'⟩ K0 = true)
    (hk : (unrH d K0 h').lookup d = some e) (hi : Γ.inn K0 = none) (hd : (t'.all fun p => match p.2 with | .eptr _ _ _ _ => false | .osub _ _ _ => false | _ => true) = true) (hk' : leH h' (ins K0 e (dropH d (unrH d K0 h')))) : Le Γ ⟨t', h'⟩ ⟨t, h⟩ := by
  rintro a w ⟨ρ, I⟩
  have I1 : Iv Γ ⟨unrT d K0 t', unrH d K0 h'⟩ ρ a w := I.sub (leT_spec ht) (leH_spec hh)
  have I2 := I1.rekey (k := d) (d := K0) hf hk hi
  obtain ⟨f1, f2, f3⟩ := free_spec hf
  -- the names of the slots
  have I3 : Iv Γ ⟨t', ins K0 e (dropH d (unrH d K0 h'))⟩ (upd ρ K0 (ρ d)) a w := by
    refine ⟨I2.dfr, I2.size, I2.frm, fun s lv hs => ?_, I2.ent, I2.new, I2.sep, I2.out, I2.inn⟩
    have h1 := unrT_lookup (d := d) (K0 := K0) hs
    have h2 := I2.tmp s _ h1
    have h3 := I2.tmp s _ h1
    cases lv with
    | own j =>
      by_cases hj : j = K0
      · subst hj
        have h4 := I1.tmp s _ h1
        simp only [unr, if_true] at h4
        show a.tmps.getD s undef = upd ρ j (ρ d) j
        rw [upd_at]; exact h4
      · simp only [unr, if_neg hj] at h2; exact h2
    | _ => exact h2
  exact ⟨_, I3.sub (fun _ _ h => h) (leH_spec hk')⟩
section
variable {Γ : Ctx} {ops : Array Oper} {l : List (Oper × Nat)} {t : List (Nat × LV)} {h : List (Nat × Ent)} {K : St → Prop} {c d ty : Nat} {ps : String} {af : Array Edge} {x : Operand}
theorem q_an {n : Nat} (T : Nat) (hn : 0 < n) (hx : St.ev ⟨t, h⟩ x = .sv (.raw (.slice none 0 0))) (hf : St.free ⟨t, h⟩ d = true) (hi : Γ.inn d = none) (hk : RunL Γ ops l ⟨(d, .own d) :: t, ins d (.row n T []) h⟩ K) :
    RunL Γ ops ((⟨some d, .assign x, ty, ps, af, none⟩, c + 2) :: l) ⟨t, h⟩ K := by
  refine run_x (ext := True) rfl (by omega) (fun _ => trivial) fun a w ρ I hd => ?_
  have run : (execOp a.eval ⟨some d, .assign x, ty, ps, af, none⟩).run Γ.P w = .ok (.value (.slice none 0 0)) w := by
    simp [execOp, ev_raw I hx]
  unfold XOk oN
  rw [run]
  have I' := I.begin (T := T) hn hf hi
  refine ⟨_, hk, ⟨upd ρ d (.slice none 0 0), ?_⟩, fun _ => Ext.refl w⟩
  exact I'.put (d := some d) (lv := .own d) (v := .slice none 0 0) (by simpa [dstOk] using hd) (upd_at _ _ _).symm
end
end Go.Abs
