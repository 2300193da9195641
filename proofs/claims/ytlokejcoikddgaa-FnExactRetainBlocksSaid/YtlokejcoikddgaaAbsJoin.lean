/- strings.Join and what the library says of rows, as what a function says of plain values. No condition beyond the lengths. -/
import Derived.Test.YtlokejcoikddgaaAbsLit
import Derived.Room.Shelf.Join48
namespace Go.Abs
open Go Go.RowKit Go.Eager Go.Shelf Go.Proofs
set_option linter.unusedVariables false
theorem ext_below {w w' : World} (h : Below w.heap.size w w') : Ext w w' := ⟨h.os, h.tape, h.output, h.size, h.block⟩
theorem pfn_join {P : Program} {ρ : Ren} (L : Lays.n156 P ρ) (X : Builder.Extra P ρ) (xs : List ByteArray) (sep : ByteArray) (hN : xs.length ≤ 140737488355328)
    (hlen : (Lib.join (xs.map (·.data.toList)) sep.data.toList).length ≤ 281474976710656) :
    PFn P (ρ.f 156) [.sl 1 (xs.map fun x => .raw (.string x)), .raw (.string sep)] (.raw (.string ⟨(Lib.join (xs.map (·.data.toList)) sep.data.toList).toArray⟩)) := by
  intro w O vs hO hsz hr
  obtain ⟨v0, v1, rfl⟩ : ∃ v0 v1, vs = #[v0, v1] := by
    match vs, hsz with
    | ⟨[a, b]⟩, _ => exact ⟨a, b, rfl⟩
  have h0 := hr 0 _ v0 rfl rfl
  have h1 := rep_raw' (hr 1 _ v1 rfl rfl)
  subst h1
  generalize hl : (xs.map fun x => SV.raw (.string x)) = l at h0
  cases h0 with
  | nil sz a c =>
    have hx : xs = [] := by cases xs with | nil => rfl | cons b bs => simp at hl
    subst hx
    exact (Any.strings_Join_none L X a c sep w).mono fun e w' ⟨he, hw⟩ => ⟨_, he, hw ▸ Ext.refl w, Rep.raw _⟩
  | sl sz l b off c vals hb hl' hc hz h1 h2 h3 =>
    have hlen' : l.length = xs.length := by rw [← hl]; simp
    have hv : ∀ j x, xs[j]? = some x → w.cell? ⟨b, off + j, none⟩ = some (.string x) := by
      intro i x hi
      have h4 := h1 i (.raw (.string x)) (by rw [← hl, List.getElem?_map, hi]; rfl)
      have h5 := rep_raw' h4
      have h6 := h3 i (by rw [hlen']; exact (List.getElem?_eq_some_iff.1 hi).1) 0 (.string x) (by rw [h5]; rfl)
      simpa using h6
    rw [hlen']
    have hbk : b < w.heap.size := by
      obtain ⟨x, hx⟩ : ∃ x, xs[0]? = some x := ⟨_, List.getElem?_eq_getElem (by omega)⟩
      exact World.block_lt_of_cell? w _ (hv 0 x hx)
    exact (Any.strings_Join_48 L X b off c xs sep w hv hbk hN (by omega) hlen).mono fun e w' ⟨he, hb⟩ => ⟨_, he, ext_below hb, Rep.raw _⟩
end Go.Abs
