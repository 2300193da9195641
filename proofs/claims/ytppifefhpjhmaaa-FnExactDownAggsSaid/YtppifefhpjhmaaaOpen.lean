/- Arguments of whatever plain type, opened: what reads as data is a value of the printed kind, with its numbers in range and its lengths below 2^63. No condition beyond the types' own. -/
import Derived.Deep.Slices
import Derived.ChangeArms
import Derived.ChangeShapes
import Derived.WideShapes
import Derived.DataReads
import Derived.Test.YtppifefhpjhmaaaWWords
namespace Go.Proofs.Ytppifefhpjhmaaa.Open
open Go.ChangeShapes Go.WideShapes Go.Deep Go.Proofs.YtppifefhpjhmaaaW.PrintWords
set_option linter.unusedVariables false

/-- Whatever reads at type t is a value of the kind d, and F holds of it. -/
def Opens {α : Type} (P : Program) (t : TypeId) (d : Kd α) (F : α → Prop) : Prop :=
  ∀ (H : Type) (enc : TypeId × Value → H) (w : World) (base : Nat) (spare : Nat → Bool) (held : Bool) (fuel : Nat) (cs : List Value) (x : DataW H × List MemPlace),
    DataW.trod enc P w base spare held fuel t cs = some x → ∃ y : α, d.K w y cs ∧ F y
/-- The fields from offset o on. -/
def OpensFs {α : Type} (P : Program) (o : Nat) (fs : List Field) (d : Kd α) (F : α → Prop) : Prop :=
  ∀ (H : Type) (enc : TypeId × Value → H) (w : World) (base : Nat) (spare : Nat → Bool) (held : Bool) (fuel : Nat) (cs : List Value),
    (∀ f, f ∈ fs → ∃ x, DataW.trod enc P w base spare held fuel f.type ((cs.drop f.offset).take (P.cellsOf f.type)) = some x) → cs.length = o + d.sz → ∃ y : α, d.K w y (cs.drop o) ∧ F y

theorem op_int {P : Program} {t : TypeId} {k : IntKind} (h : P.underlying t = some (.int k)) : Opens P t (Kd.int k) (fun n => (Lit.int k n).wf = true) := by
  intro H enc w base spare held fuel cs x hx
  obtain ⟨n, rfl, _, hw⟩ := DataW.trod_int h hx
  exact ⟨n, rfl, hw⟩
theorem op_bool {P : Program} {t : TypeId} (h : P.underlying t = some .bool) : Opens P t Kd.bool (fun _ => True) := by
  intro H enc w base spare held fuel cs x hx
  obtain ⟨n, rfl, _⟩ := DataW.trod_bool h hx
  exact ⟨n, rfl, trivial⟩
theorem op_string {P : Program} {t : TypeId} (h : P.underlying t = some .string) : Opens P t Kd.string (fun s => s.size ≤ 9223372036854775807) := by
  intro H enc w base spare held fuel cs x hx
  obtain ⟨s, rfl, _, hs⟩ := DataW.trod_string h hx
  exact ⟨s, rfl, hs⟩
theorem get_of_family {α : Type} {n : Nat} (f : Nat → α) {j : Nat} {p : α} (h : ((List.range n).map f)[j]? = some p) : j < n ∧ f j = p := by
  rw [List.getElem?_map] at h
  obtain ⟨i, hi, rfl⟩ := Option.map_eq_some_iff.1 h
  obtain ⟨hl, he⟩ := List.getElem?_eq_some_iff.1 hi
  simp only [List.length_range] at hl
  simp only [List.getElem_range] at he
  subst he
  exact ⟨hl, rfl⟩
theorem op_slice {P : Program} {t e : TypeId} {α : Type} {d : Kd α} {F : α → Prop} (h : P.underlying t = some (.slice e)) (hc : P.cellsOf e = d.sz) (he : Opens P e d F) :
    Opens P t (Kd.slice e d) (fun xs => xs.length ≤ 9223372036854775807 ∧ ∀ x, x ∈ xs → F x) := by
  intro H enc w base spare held fuel cs x hx
  rcases open_slice h hx with ⟨rfl, _⟩ | ⟨a, len, cap, m, n, D, Pl, rfl, _, hl, hm, hmm, _, hel⟩
  · exact ⟨[], ⟨none, 0, rfl, Nat.le_refl _, rfl, Nat.zero_le _, fun hn => absurd hn (Nat.lt_irrefl _)⟩, Nat.zero_le _, fun x hx => by simp at hx⟩
  · have hle : len ≤ m := by rw [hmm]; split <;> omega
    have h1 : ∀ i, i < len → ∃ y : α, (∃ c, c.length = d.sz ∧ d.K w y c ∧ ∀ j u, c[j]? = some u → w.cell? (a.add (i * d.sz + j)) = some u) ∧ F y := by
      intro i hi
      obtain ⟨cs', h2, h3⟩ := hel i (by omega)
      obtain ⟨y, hk, hf⟩ := he H enc w base spare held n cs' _ h3
      obtain ⟨_, hlen, hcell⟩ := World.cells?_some h2
      refine ⟨y, ⟨cs', by rw [hlen, hc], hk, fun j u hj => ?_⟩, hf⟩
      have hjl : j < cs'.length := (List.getElem?_eq_some_iff.1 hj).1
      have h4 := hcell j (by omega)
      rw [Go.Deep.add_add, hc] at h4
      rw [h4, hj]
    cases len with
    | zero => exact ⟨[], ⟨some a, cap, rfl, hl, rfl, Nat.zero_le _, fun hn => absurd hn (Nat.lt_irrefl _)⟩, Nat.zero_le _, fun x hx => by simp at hx⟩
    | succ len =>
      obtain ⟨y0, _⟩ := h1 0 (by omega)
      obtain ⟨f, hf⟩ := @choose_lt α ⟨y0⟩ (len + 1) _ h1
      have hm' : len + 1 ≤ 9223372036854775807 := by unfold maxLen at hm; omega
      refine ⟨(List.range (len + 1)).map f, ⟨some a, cap, by simp, by simpa using hl, rfl, by simpa using hm', fun _ => ⟨a, rfl, fun j p hj => ?_⟩⟩, by simpa using hm', fun x hx => ?_⟩
      · obtain ⟨hj1, rfl⟩ := get_of_family f hj
        exact (hf j hj1).1
      · obtain ⟨i, hi, rfl⟩ := List.mem_map.1 hx
        exact (hf i (by simpa using hi)).2
theorem ofs_one {P : Program} {o : Nat} {f : Field} {α : Type} {d : Kd α} {F : α → Prop} (ho : f.offset = o) (hc : P.cellsOf f.type = d.sz) (h : Opens P f.type d F) : OpensFs P o [f] d F := by
  intro H enc w base spare held fuel cs hx hl
  obtain ⟨x, hx⟩ := hx f List.mem_cons_self
  obtain ⟨y, hk, hf⟩ := h H enc w base spare held fuel _ x hx
  rw [ho, hc, List.take_of_length_le (by rw [List.length_drop]; omega)] at hk
  exact ⟨y, hk, hf⟩
theorem ofs_cons {P : Program} {o : Nat} {f : Field} {fs : List Field} {α β : Type} {a : Kd α} {b : Kd β} {F : α → Prop} {G : β → Prop} (ho : f.offset = o) (hc : P.cellsOf f.type = a.sz) (h : Opens P f.type a F) (hs : OpensFs P (o + a.sz) fs b G) :
    OpensFs P o (f :: fs) (Kd.pair a b) (fun y => F y.1 ∧ G y.2) := by
  intro H enc w base spare held fuel cs hx hl
  have hl' : cs.length = o + (a.sz + b.sz) := hl
  obtain ⟨x, h1⟩ := hx f List.mem_cons_self
  obtain ⟨y, hk, hf⟩ := h H enc w base spare held fuel _ x h1
  obtain ⟨z, hkz, hg⟩ := hs H enc w base spare held fuel cs (fun f' hf' => hx f' (List.mem_cons_of_mem _ hf')) (by omega)
  rw [ho, hc] at hk
  refine ⟨(y, z), ⟨(cs.drop o).take a.sz, cs.drop (o + a.sz), ?_, hk, hkz⟩, hf, hg⟩
  rw [← List.drop_drop, List.take_append_drop]
theorem op_struct {P : Program} {t : TypeId} {fs : Array Field} {α : Type} {d : Kd α} {F : α → Prop} (h : P.underlying t = some (.struct fs)) (hc : P.cellsOf t = d.sz) (hs : OpensFs P 0 fs.toList d F) : Opens P t d F := by
  intro H enc w base spare held fuel cs x hx
  obtain ⟨xs, n, _, _, hl, hlen, hf⟩ := DataW.trod_struct h hx
  obtain ⟨y, hk, hg⟩ := hs H enc w base spare held n cs (fun f hm => by
    obtain ⟨i, hi⟩ := List.getElem?_of_mem hm
    have h1 := hf i f (by rw [← Array.getElem?_toList]; exact hi)
    have h2 : i < fs.toList.length := (List.getElem?_eq_some_iff.1 hi).1
    rw [Array.length_toList] at h2
    have h3 : i < xs.length := by rw [hlen]; exact h2
    rw [List.getElem?_eq_getElem h3] at h1
    exact ⟨_, h1⟩) (by rw [hl, hc, Nat.zero_add])
  exact ⟨y, by simpa using hk, hg⟩
theorem op_iso {P : Program} {t : TypeId} {α β : Type} {d : Kd α} {F : α → Prop} (f : β → α) (g : α → β) (hfg : ∀ x, f (g x) = x) (h : Opens P t d F) : Opens P t (Kd.iso d f) (fun y => F (f y)) := by
  intro H enc w base spare held fuel cs x hx
  obtain ⟨y, hk, hf⟩ := h H enc w base spare held fuel cs x hx
  refine ⟨g y, ?_, by show F (f (g y)); rw [hfg]; exact hf⟩
  show d.K w (f (g y)) cs
  rw [hfg]
  exact hk
theorem op_mono {P : Program} {t : TypeId} {α : Type} {d : Kd α} {F G : α → Prop} (h : Opens P t d F) (hg : ∀ y, F y → G y) : Opens P t d G := by
  intro H enc w base spare held fuel cs x hx
  obtain ⟨y, hk, hf⟩ := h H enc w base spare held fuel cs x hx
  exact ⟨y, hk, hg y hf⟩
/-- A whole argument. -/
theorem op_arg {P : Program} {t : TypeId} {α : Type} {d : Kd α} {F : α → Prop} (h : Opens P t d F) {H : Type} {enc : TypeId × Value → H} {w : World} {base : Nat} {spare : Nat → Bool} {held : Bool} {v : Value} {x : DataW H} {ps : List MemPlace}
    (hx : DataW.Trod enc P w base spare held t v x ps) : ∃ y : α, d.K w y v.cells.toList ∧ F y := by
  obtain ⟨fuel, hf⟩ := hx
  exact h H enc w base spare held fuel _ _ hf
theorem agg_of {P : Program} {w : World} {r : Reach} {base : Nat} {t : TypeId} {v : Value} {fs : Array Field} {l : List Value} (ht : P.underlying t = some (.struct fs)) (h : Value.okWide P w r base t v) (hv : v.cells.toList = l) : v = .agg l.toArray := by
  obtain ⟨cs, rfl, _⟩ := okWide_struct ht h
  simp only [Value.cells] at hv
  subst hv
  simp
theorem slice_of {P : Program} {w : World} {r : Reach} {base : Nat} {t e : TypeId} {v : Value} {A : Option Addr} {n c : Nat} (ht : P.underlying t = some (.slice e)) (h : Value.okWide P w r base t v) (hv : v.cells.toList = [.slice A n c]) : v = .slice A n c := by
  obtain ⟨a, len, cap, rfl⟩ := okWide_slice ht h
  simpa [Value.cells] using hv
end Go.Proofs.Ytppifefhpjhmaaa.Open
