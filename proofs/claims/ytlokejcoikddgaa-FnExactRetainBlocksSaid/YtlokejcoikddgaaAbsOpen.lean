/- Arguments of whatever plain type, opened as plain values: numbers in range, lengths below 2^63. No condition beyond the types' own. -/
import Derived.Test.YtlokejcoikddgaaAbsMap
import Derived.Deep.Slices
import Derived.ChangeArms
import Derived.ChangeShapes
import Derived.WideShapes
import Derived.DataReads
namespace Go.Abs
open Go Go.RowKit Go.Eager Go.ChangeShapes Go.WideShapes Go.Deep
set_option linter.unusedVariables false

def nobody : Nat → Prop := fun _ => False

/-- Cells that read as this. -/
def RC (w : World) (s : SV) (cs : List Value) : Prop := cs.length = s.cells.length ∧ ∀ (i : Nat) (q : SV) (u : Value), s.cells[i]? = some q → cs[i]? = some u → Rep w nobody q u ∧ u.oneCell' = true
def plain (s : SV) : Prop := (∃ l, s = .agg l) ∨ s.one = true

theorem cells_agg (l : List SV) : (SV.agg l).cells = l := rfl
theorem RC.agg {w : World} {l : List SV} {cs : List Value} (h : RC w (.agg l) cs) : Rep w nobody (.agg l) (.agg cs.toArray) :=
  Rep.agg l cs.toArray (by have := h.1; rw [cells_agg] at this; simpa using this) (fun i u hu => by
    have hu' : cs[i]? = some u := by simpa using hu
    have hlt : i < l.length := by have := h.1; have h2 := (List.getElem?_eq_some_iff.1 hu').1; rw [cells_agg] at this; omega
    exact (h.2 i l[i] u (List.getElem?_eq_getElem hlt) hu').2) fun i s u hs hu => (h.2 i s u hs (by simpa using hu)).1
theorem RC.one {w : World} {s : SV} {cs : List Value} (h : RC w s cs) (h1 : s.one = true) : ∃ u, cs = [u] ∧ Rep w nobody s u ∧ u.oneCell' = true := by
  have hc : s.cells = [s] := by cases s <;> simp [SV.one] at h1 <;> rfl
  have hl := h.1
  rw [hc] at hl
  match cs, hl with
  | [u], _ => exact ⟨u, rfl, h.2 0 s u (by rw [hc]; rfl) rfl⟩
theorem RC.mk1 {w : World} {s : SV} {u : Value} (h1 : s.one = true) (h : Rep w nobody s u) : RC w s [u] := by
  have hc : s.cells = [s] := by cases s <;> simp [SV.one] at h1 <;> rfl
  refine ⟨by rw [hc]; rfl, fun i q v hq hv => ?_⟩
  rw [hc] at hq
  have : i = 0 := by cases i with | zero => rfl | succ i => simp at hq
  subst this
  simp at hq hv
  subst hq hv
  exact ⟨h, h.oneCell h1⟩

/-- Whatever reads at type t is a value of this kind, and F holds of it. -/
def Opens {α : Type} (P : Program) (t : TypeId) (E : α → SV) (F : α → Prop) : Prop :=
  ∀ (H : Type) (enc : TypeId × Value → H) (w : World) (base : Nat) (spare : Nat → Bool) (held : Bool) (fuel : Nat) (cs : List Value) (x : DataW H × List MemPlace),
    DataW.trod enc P w base spare held fuel t cs = some x → ∃ y : α, RC w (E y) cs ∧ F y
/-- The fields from offset o on. -/
def OpensFs {α : Type} (P : Program) (o n : Nat) (fs : List Field) (E : α → List SV) (F : α → Prop) : Prop :=
  ∀ (H : Type) (enc : TypeId × Value → H) (w : World) (base : Nat) (spare : Nat → Bool) (held : Bool) (fuel : Nat) (cs : List Value),
    (∀ f, f ∈ fs → ∃ x, DataW.trod enc P w base spare held fuel f.type ((cs.drop f.offset).take (P.cellsOf f.type)) = some x) → cs.length = o + n → ∃ y : α, RC w (.agg (E y)) (cs.drop o) ∧ F y

theorem op_int {P : Program} {t : TypeId} {k : IntKind} (h : P.underlying t = some (.int k)) : Opens P t (fun n => .raw (.int k n)) (fun n => (Lit.int k n).wf = true) := by
  intro H enc w base spare held fuel cs x hx
  obtain ⟨n, rfl, _, hw⟩ := DataW.trod_int h hx
  exact ⟨n, RC.mk1 rfl (.raw _), hw⟩
theorem op_bool {P : Program} {t : TypeId} (h : P.underlying t = some .bool) : Opens P t (fun b => .raw (.bool b)) (fun _ => True) := by
  intro H enc w base spare held fuel cs x hx
  obtain ⟨n, rfl, _⟩ := DataW.trod_bool h hx
  exact ⟨n, RC.mk1 rfl (.raw _), trivial⟩
theorem op_string {P : Program} {t : TypeId} (h : P.underlying t = some .string) : Opens P t (fun s => .raw (.string s)) (fun s => s.size ≤ 9223372036854775807) := by
  intro H enc w base spare held fuel cs x hx
  obtain ⟨s, rfl, _, hs⟩ := DataW.trod_string h hx
  exact ⟨s, RC.mk1 rfl (.raw _), hs⟩
theorem get_of_family {α : Type} {n : Nat} (f : Nat → α) {j : Nat} {p : α} (h : ((List.range n).map f)[j]? = some p) : j < n ∧ f j = p := by
  rw [List.getElem?_map] at h
  obtain ⟨i, hi, rfl⟩ := Option.map_eq_some_iff.1 h
  obtain ⟨hl, he⟩ := List.getElem?_eq_some_iff.1 hi
  simp only [List.length_range] at hl
  simp only [List.getElem_range] at he
  subst he
  exact ⟨hl, rfl⟩
theorem choose_lt' {α : Type} [Inhabited α] (n : Nat) (p : Nat → α → Prop) (h : ∀ i, i < n → ∃ y, p i y) : ∃ f : Nat → α, ∀ i, i < n → p i (f i) := by
  classical
  refine ⟨fun i => if hi : i < n then Classical.choose (h i hi) else default, fun i hi => ?_⟩
  simp only [hi, dif_pos]
  exact Classical.choose_spec (h i hi)
theorem op_slice {P : Program} {t e : TypeId} {n : Nat} {α : Type} {E : α → SV} {F : α → Prop} (h : P.underlying t = some (.slice e)) (hc : P.cellsOf e = n) (hn : 0 < n) (hp : ∀ y, plain (E y) ∧ (E y).cells.length = n) (he : Opens P e E F) :
    Opens P t (fun xs : List α => .sl n (xs.map E)) (fun xs => xs.length ≤ 9223372036854775807 ∧ ∀ x, x ∈ xs → F x) := by
  intro H enc w base spare held fuel cs x hx
  rcases open_slice h hx with ⟨rfl, _⟩ | ⟨a, len, cap, m, k, D, Pl, rfl, _, hl, hm, hmm, _, hel⟩
  · exact ⟨[], RC.mk1 rfl (.nil _ _ _), Nat.zero_le _, fun x hx => by simp at hx⟩
  · have hle : len ≤ m := by rw [hmm]; split <;> omega
    have h1 : ∀ i, i < len → ∃ y : α, (∃ c, RC w (E y) c ∧ ∀ j u, c[j]? = some u → w.cell? (a.add (i * n + j)) = some u) ∧ F y := by
      intro i hi
      obtain ⟨cs', h2, h3⟩ := hel i (by omega)
      obtain ⟨y, hk, hf⟩ := he H enc w base spare held k cs' _ h3
      obtain ⟨_, hlen, hcell⟩ := World.cells?_some h2
      refine ⟨y, ⟨cs', hk, fun j u hj => ?_⟩, hf⟩
      have hjl : j < cs'.length := (List.getElem?_eq_some_iff.1 hj).1
      have h4 := hcell j (by omega)
      rw [Go.Deep.add_add, hc] at h4
      rw [h4, hj]
    cases len with
    | zero => exact ⟨[], RC.mk1 rfl (.nil _ _ _), Nat.zero_le _, fun x hx => by simp at hx⟩
    | succ len =>
      obtain ⟨y0, _⟩ := h1 0 (by omega)
      obtain ⟨f, hf⟩ := @choose_lt' α ⟨y0⟩ (len + 1) _ h1
      have hm' : len + 1 ≤ 9223372036854775807 := by unfold maxLen at hm; omega
      obtain ⟨c0, hc0, hcell0⟩ := (hf 0 (by omega)).1
      -- the address: no spot
      have hspot : a.spot = none ∨ 0 < n := .inr hn
      have hE : ∀ i, i < len + 1 → ∃ v : Value, Rep w nobody (E (f i)) v ∧ v.cells.size = n ∧ ∀ (j : Nat) (u : Value), v.cells[j]? = some u → w.cell? (a.add (i * n + j)) = some u := by
        intro i hi
        obtain ⟨c, hrc, hcell⟩ := (hf i hi).1
        obtain ⟨hpl, hsz⟩ := hp (f i)
        rcases hpl with ⟨l, hl'⟩ | h1'
        · rw [hl'] at hrc hsz ⊢
          exact ⟨_, hrc.agg, by rw [← hsz, ← hrc.1]; simp [Value.cells], fun j u hj => hcell j u (by simpa [Value.cells] using hj)⟩
        · obtain ⟨u, rfl, hr, ho⟩ := hrc.one h1'
          refine ⟨u, hr, by rw [oneCell_cells ho, ← hsz, ← hrc.1]; rfl, fun j v hj => ?_⟩
          rw [oneCell_cells ho] at hj
          exact hcell j v (by simpa using hj)
      have hsp : a = ⟨a.block, a.off, none⟩ := by
        obtain ⟨v, _, hs, hcl⟩ := hE 0 (by omega)
        have h0 : 0 < v.cells.size := by omega
        have h2 := hcl 0 _ (Array.getElem?_eq_getElem h0)
        simp only [Nat.zero_mul, Nat.add_zero] at h2
        have h3 : a.add 0 = a := by simp [Addr.add]
        rw [h3] at h2
        cases hsp : a.spot with
        | none => cases a; simp_all
        | some q => simp [World.cell?, hsp] at h2; split at h2 <;> simp at h2
      refine ⟨(List.range (len + 1)).map f, RC.mk1 rfl ?_, by simpa using hm', fun x hx => ?_⟩
      · have hn1 : len + 1 = (((List.range (len + 1)).map f).map E).length := by simp
        obtain ⟨vf, hvf⟩ := choose_lt' (α := Value) (len + 1) _ hE
        have e1 : (Value.slice (some a) (len + 1) cap) = .slice (some ⟨a.block, a.off, none⟩) (((List.range (len + 1)).map f).map E).length cap := by rw [← hn1, ← hsp]
        rw [e1]
        refine Rep.sl n _ a.block a.off cap vf (fun h => h) (by simp) (by rw [← hn1]; exact hl) hn ?_ ?_ ?_
        · intro i s hi
          rw [List.getElem?_map] at hi
          obtain ⟨y, hy, rfl⟩ := Option.map_eq_some_iff.1 hi
          obtain ⟨hi1, rfl⟩ := get_of_family f hy
          exact (hvf i hi1).1
        · intro i hi; exact (hvf i (by simpa using hi)).2.1
        · intro i hi j u hu
          have h3 := (hvf i (by simpa using hi)).2.2 j u hu
          have h4 : a.add (i * n + j) = ⟨a.block, a.off + i * n + j, none⟩ := by rw [hsp]; rw [addr_add]; simp [Nat.add_assoc]
          rw [← h4]; exact h3
      · obtain ⟨i, hi, rfl⟩ := List.mem_map.1 hx
        exact (hf i (by simpa using hi)).2

theorem ofs_nil {P : Program} {o : Nat} : OpensFs P o 0 [] (fun _ : Unit => []) (fun _ => True) := by
  intro H enc w base spare held fuel cs hx hl
  refine ⟨(), ⟨by simp [SV.cells]; omega, fun i q u hq _ => by simp [SV.cells] at hq⟩, trivial⟩
theorem ofs_cons {P : Program} {o n m : Nat} {f : Field} {fs : List Field} {α β : Type} {E : α → SV} {G : β → List SV} {F : α → Prop} {J : β → Prop} (ho : f.offset = o) (hc : P.cellsOf f.type = n) (hp : ∀ y, plain (E y) ∧ (E y).cells.length = n) (h : Opens P f.type E F) (hs : OpensFs P (o + n) m fs G J) :
    OpensFs P o (n + m) (f :: fs) (fun y : α × β => (E y.1).cells ++ G y.2) (fun y => F y.1 ∧ J y.2) := by
  intro H enc w base spare held fuel cs hx hl
  obtain ⟨x, h1⟩ := hx f List.mem_cons_self
  obtain ⟨y, hk, hf⟩ := h H enc w base spare held fuel _ x h1
  obtain ⟨z, hkz, hg⟩ := hs H enc w base spare held fuel cs (fun f' hf' => hx f' (List.mem_cons_of_mem _ hf')) (by omega)
  rw [ho, hc] at hk
  obtain ⟨hp1, hp2⟩ := hp y
  refine ⟨(y, z), (?_ : RC w (.agg ((E y).cells ++ G z)) (cs.drop o)), hf, hg⟩
  refine ⟨?_, fun i q u hq hu => ?_⟩
  · have h2 := hkz.1
    rw [cells_agg] at h2 ⊢
    rw [List.length_append, hp2, List.length_drop]
    rw [List.length_drop] at h2
    omega
  · rw [cells_agg] at hq
    by_cases hi : i < n
    · rw [List.getElem?_append_left (by omega)] at hq
      refine hk.2 i q u hq ?_
      rw [List.getElem?_take, if_pos hi]; exact hu
    · rw [List.getElem?_append_right (by omega), hp2] at hq
      refine hkz.2 (i - n) q u hq ?_
      rw [List.getElem?_drop] at hu ⊢
      rw [← hu]; congr 1; omega
theorem op_struct {P : Program} {t : TypeId} {n : Nat} {fs : Array Field} {α : Type} {E : α → List SV} {F : α → Prop} (h : P.underlying t = some (.struct fs)) (hc : P.cellsOf t = n) (hs : OpensFs P 0 n fs.toList E F) : Opens P t (fun y => .agg (E y)) F := by
  intro H enc w base spare held fuel cs x hx
  obtain ⟨xs, m, _, _, hl, hlen, hf⟩ := DataW.trod_struct h hx
  obtain ⟨y, hk, hg⟩ := hs H enc w base spare held m cs (fun f hm => by
    obtain ⟨i, hi⟩ := List.getElem?_of_mem hm
    have h1 := hf i f (by rw [← Array.getElem?_toList]; exact hi)
    have h2 : i < fs.toList.length := (List.getElem?_eq_some_iff.1 hi).1
    rw [Array.length_toList] at h2
    have h3 : i < xs.length := by rw [hlen]; exact h2
    rw [List.getElem?_eq_getElem h3] at h1
    exact ⟨_, h1⟩) (by rw [hl, hc, Nat.zero_add])
  exact ⟨y, by simpa using hk, hg⟩
theorem op_iso {P : Program} {t : TypeId} {α β : Type} {E : α → SV} {F : α → Prop} {E' : β → SV} {F' : β → Prop} (f : α → β) (hE : ∀ x, E x = E' (f x)) (hF : ∀ x, F x → F' (f x)) (h : Opens P t E F) : Opens P t E' F' := by
  intro H enc w base spare held fuel cs x hx
  obtain ⟨y, hk, hf⟩ := h H enc w base spare held fuel cs x hx
  exact ⟨f y, by rw [← hE]; exact hk, hF y hf⟩
/-- A whole argument. -/
theorem op_arg {P : Program} {t : TypeId} {α : Type} {E : α → SV} {F : α → Prop} (h : Opens P t E F) {H : Type} {enc : TypeId × Value → H} {w : World} {base : Nat} {spare : Nat → Bool} {held : Bool} {v : Value} {x : DataW H} {ps : List MemPlace}
    (hx : DataW.Trod enc P w base spare held t v x ps) : ∃ y : α, RC w (E y) v.cells.toList ∧ F y := by
  obtain ⟨fuel, hf⟩ := hx
  exact h H enc w base spare held fuel _ _ hf
/-- An argument that is a struct; a slice. -/
theorem arg_agg {P : Program} {w : World} {r : Reach} {base : Nat} {t : TypeId} {v : Value} {fs : Array Field} {l : List SV} (ht : P.underlying t = some (.struct fs)) (h : Value.okWide P w r base t v) (hr : RC w (.agg l) v.cells.toList) : Rep w nobody (.agg l) v := by
  obtain ⟨cs, rfl, _⟩ := okWide_struct ht h
  have := hr.agg
  simpa [Value.cells] using this
theorem arg_sl {P : Program} {w : World} {r : Reach} {base : Nat} {t e : TypeId} {v : Value} {n : Nat} {l : List SV} (ht : P.underlying t = some (.slice e)) (h : Value.okWide P w r base t v) (hr : RC w (.sl n l) v.cells.toList) : Rep w nobody (.sl n l) v := by
  obtain ⟨a, len, cap, rfl⟩ := okWide_slice ht h
  obtain ⟨u, hu, h2, _⟩ := hr.one rfl
  simp [Value.cells] at hu
  rw [hu]; exact h2
theorem reps_nil {w : World} {O : Nat → Prop} : ∀ (i : Nat) (s : SV) (u : Value), ([] : List SV)[i]? = some s → ([] : List Value)[i]? = some u → Rep w O s u := fun i s u h => by simp at h
theorem reps_cons {w : World} {O : Nat → Prop} {s : SV} {u : Value} {l : List SV} {vs : List Value} (h : Rep w O s u) (hs : ∀ (i : Nat) (s : SV) (u : Value), l[i]? = some s → vs[i]? = some u → Rep w O s u) :
    ∀ (i : Nat) (s' : SV) (u' : Value), (s :: l)[i]? = some s' → (u :: vs)[i]? = some u' → Rep w O s' u'
  | 0, s', u', h1, h2 => by simp at h1 h2; subst h1 h2; exact h
  | i + 1, s', u', h1, h2 => hs i s' u' (by simpa using h1) (by simpa using h2)
/-- The call of a function that was told, from without. -/
theorem pfn_call {P : Program} {f : FuncId} {args : List SV} {r : SV} (h : PFn P f args r) (w : World) (vs : List Value) (hl : vs.length = args.length) (hr : ∀ (i : Nat) (s : SV) (u : Value), args[i]? = some s → vs[i]? = some u → Rep w nobody s u) :
    Calls P f vs.toArray w fun e w' => ∃ v, e = .returned v ∧ Ext w w' ∧ Rep w' nobody r v :=
  h w nobody vs.toArray (fun b h => h.elim) (by simpa using hl) (fun i s u hs hu => hr i s u hs (by simpa using hu))
theorem rep_raw {w : World} {O : Nat → Prop} {v u : Value} (h : Rep w O (.raw u) v) : v = u := by cases h; rfl
end Go.Abs
