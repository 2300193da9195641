/- A row of whole numbers of ours, put in order by the library. No condition. -/
import Derived.Test.YtlokejcoikddgaaAbsOwn
import Derived.Shelf.Sort.Plain
import Derived.Shelf.Slices.Clone
namespace Go.Abs
open Go Go.RowKit Go.Eager Go.Sort
set_option linter.unusedVariables false
/-- What slices.Sort says at []int: the contract's own words. -/
def SortsInts (P : Program) (f : FuncId) : Prop :=
  ∀ (blk off cap : Nat) (zs : List Int) (w : World), Holds (Value.int .i64) w blk off zs.toArray → blk < w.heap.size → zs.length < 4611686018427387904 →
    Calls P f #[.slice (some ⟨blk, off, none⟩) zs.length cap] w fun e w' =>
      e = .returned (.tuple #[]) ∧ ∃ n os, w' = grow (putRow (Value.int .i64) (Sort.ahead w n) blk off (zs.mergeSort fun x y => decide (x ≤ y)).toArray) os
def srt (zs : List Int) : List Int := zs.mergeSort fun x y => decide (x ≤ y)
section
variable {Γ : Ctx} {σ : St} {ρ : Nat → Value} {a : Act} {w : World}
theorem ok_sorti (I : Iv Γ σ ρ a w) {o : Oper} {f : FuncId} {fn : Func} {x : Operand} {ts : Array TypeId} {T k : Nat} {zs : List Int} {K : St → Prop}
    (ho : o.op = .call { callee := .value (.func f), args := #[x], argTypes := ts }) (hdn : dstOk Γ o = true) (hf : Γ.P.funcs[f]? = some fn) (hname : (fn.name == "runtime.NumGoroutine") = false) (hb : fn.body.isNone = false)
    (hx : σ.ev x = .own k) (hk : σ.h.lookup k = some (.row 1 T (zs.map fun z => .raw (.int .i64 z)))) (h0 : 0 < zs.length) (h1 : zs.length < 4611686018427387904) (hc : SortsInts Γ.P f)
    (hK : K ((⟨σ.t, ins k (.row 1 T ((srt zs).map fun z => .raw (.int .i64 z))) σ.h⟩ : St).put o.dst .dead)) : XOk Γ a w o False K := by
  have hX : a.eval x = ρ k := by have := I.ev x; rw [hx] at this; exact this
  have hrun : (execOp a.eval o).run Γ.P w = .ok (.enter f #[ρ k]) w := by
    have hY : a.eval (.func f) = .func (.func f) #[] #[] := rfl
    simp [execOp, ho, resolve, hY, Deferred.ofValue, invoke, run_callFunc hf hname hb, hX]
  obtain ⟨hz, xs, vals, hown, hrep⟩ := I.ent k _ hk
  have hxs : xs = zs.map (Value.int .i64) := by
    apply List.ext_getElem?
    intro q
    have hl : xs.length = zs.length := by simpa using hown.1
    cases hq : zs[q]? with
    | none => rw [List.getElem?_eq_none (by have := List.getElem?_eq_none_iff.1 hq; omega), List.getElem?_map, hq]; rfl
    | some z =>
      obtain ⟨r1, r2, r3⟩ := hrep q (.raw (.int .i64 z)) (by rw [List.getElem?_map, hq]; rfl)
      have e1 := rep_raw' r1
      have := r3 0 (.int .i64 z) (by rw [e1]; rfl)
      rw [List.getElem?_map, hq]
      simpa using this
  rw [hxs, List.length_map] at hown
  have hne : ρ k ≠ .slice none 0 0 := by
    intro h
    rcases hown.2 with ⟨_, h2⟩ | ⟨g, c, cur, hv, _⟩
    · omega
    · rw [h] at hv; cases hv
  obtain ⟨g, cap, hv, _, hlt, hcap, hmax, _, hH⟩ := Lib.holds_of_ownsRow hown hne
  have hbk : blk (ρ k) = some g := by rw [hv]; rfl
  unfold XOk oN
  rw [hrun, hv]
  refine (hc g 0 cap zs w hH hlt h1).mono ?_
  rintro e w' ⟨he, n, os, rfl⟩
  refine ⟨_, he, _, hK, ⟨ρ, ?_⟩, fun h => h.elim⟩
  rw [hv] at hown
  have hs : (srt zs).length = zs.length := by unfold srt; exact List.length_mergeSort _
  have hrow := Lib.ownsRow_putRow (q := n) (ys := srt zs) (k := zs.length) hown hs (Nat.le_refl _)
  rw [List.take_of_length_le (by omega)] at hrow
  have hsz : (putRow (Value.int .i64) (Sort.ahead w n) g 0 (srt zs).toArray).heap.size = w.heap.size := by simp [putRow, mapBlock, Sort.ahead]
  have hgr : ∀ b, b < w.heap.size → (grow (putRow (Value.int .i64) (Sort.ahead w n) g 0 (srt zs).toArray) os).heap[b]? = (putRow (Value.int .i64) (Sort.ahead w n) g 0 (srt zs).toArray).heap[b]? := by
    intro b hb
    simp only [grow]
    rw [Array.getElem?_append_left (by rw [hsz]; exact hb)]
  have hoth : ∀ b, b ≠ g → (putRow (Value.int .i64) (Sort.ahead w n) g 0 (srt zs).toArray).heap[b]? = w.heap[b]? := by
    intro b hb
    simp [putRow, mapBlock, Sort.ahead, Array.getElem?_modify, show g ≠ b from fun h => hb h.symm]
  refine (I.turn (w' := grow (putRow (Value.int .i64) (Sort.ahead w n) g 0 (srt zs).toArray) os) (e := .row 1 T ((srt zs).map fun z => .raw (.int .i64 z))) hk ⟨rfl, rfl, rfl, by rw [size_grow, hsz]; omega⟩ (fun b hb hne => ?_) ?_).put (dstOk_spec hdn) trivial
  · rw [hgr b hb]; exact hoth b fun h => hne (by rw [hbk, h])
  · refine ⟨hz, (srt zs).map (Value.int .i64), fun i => .int .i64 ((srt zs).getD i 0), ?_, fun i s hi => ?_⟩
    · rw [hv, List.length_map, hs]
      refine ⟨hrow.1, ?_⟩
      rcases hrow.2 with ⟨h, _⟩ | ⟨g2, c2, cur, e1, e2, e3, rest⟩
      · cases h
      · refine .inr ⟨g2, c2, cur, e1, e2, ?_, rest⟩
        simp only [Value.slice.injEq, Option.some.injEq, Addr.mk.injEq, and_true] at e1
        obtain ⟨rfl, _⟩ := e1
        rw [hgr g hlt]; exact e3
    · rw [List.getElem?_map] at hi
      cases hq : (srt zs)[i]? with
      | none => simp [hq] at hi
      | some z =>
        simp only [hq, Option.map_some, Option.some.injEq] at hi
        subst hi
        simp only [List.getD_eq_getElem?_getD, hq, Option.getD_some]
        refine ⟨Rep.raw _, rfl, fun j u hu => ?_⟩
        have hj0 : j = 0 := by have := (Array.getElem?_eq_some_iff.1 hu).1; simpa [Value.cells] using this
        subst hj0
        simp [Value.cells] at hu; subst hu
        rw [Nat.mul_one, Nat.add_zero, List.getElem?_map, hq]; rfl
end
section
variable {Γ : Ctx} {ops : Array Oper} {l : List (Oper × Nat)} {t : List (Nat × LV)} {h : List (Nat × Ent)} {K : St → Prop} {c d ty : Nat} {ps : String} {af : Array Edge} {x y : Operand}
theorem q_sorti {f k T : Nat} {ts : Array Nat} {zs : List Int} (hc : SortsInts Γ.P f) (hcl : Calb Γ.P f) (hx : St.ev ⟨t, h⟩ x = .own k) (hh : h.lookup k = some (.row 1 T (zs.map fun z => .raw (.int .i64 z)))) (h0 : 0 < zs.length) (h1 : zs.length < 4611686018427387904)
    (hk : RunL Γ ops l ⟨(d, .dead) :: t, ins k (.row 1 T ((srt zs).map fun z => .raw (.int .i64 z))) h⟩ K) :
    RunL Γ ops ((⟨some d, .call { callee := .value (.func f), args := #[x], argTypes := ts }, ty, ps, af, none⟩, 2) :: l) ⟨t, h⟩ K :=
  let ⟨_, hf', hname, hb⟩ := hcl
  run_x (ext := False) rfl (by omega) (fun h => (h rfl).elim) fun _ _ _ I hd => ok_sorti I rfl hd hf' hname hb hx hh h0 h1 hc hk
end
open Go.Shelf Go.Proofs in
theorem sorts_plain {P : Program} {ρ : Ren} (L : Lays.n189 P ρ) : SortsInts P (ρ.f 189) := fun blk off cap zs w h1 h2 h3 => Any.slices_Sort_int L blk off cap zs w h1 h2 h3
open Go.Shelf Go.Proofs in
/-- slices.Clone of whole numbers, of one at least. -/
theorem pfno_clone {P : Program} {ρ : Ren} (L : Lays2.n15 P ρ) (zs : List Int) (h0 : 0 < zs.length) (h1 : zs.length * 8 ≤ 140737488355328) :
    PFnO P (ρ.f 15) [.sl 1 (zs.map fun z => .raw (.int .i64 z))] 1 (ρ.t 3) (zs.map fun z => .raw (.int .i64 z)) := by
  intro w O vs hO hsz hr
  obtain ⟨v0, rfl⟩ : ∃ v0, vs = #[v0] := by
    match vs, hsz with
    | ⟨[a]⟩, _ => exact ⟨a, rfl⟩
  have hv := hr 0 _ v0 rfl rfl
  generalize hl : (zs.map fun z => SV.raw (.int .i64 z)) = l at hv ⊢
  cases hv with
  | nil sz a c => have := congrArg List.length hl; rw [List.length_map] at this; simp only [List.length_nil] at this; omega
  | sl sz l b off c vals hb hl' hc hz q1 q2 q3 =>
    have hlen : l.length = zs.length := by rw [← hl]; simp
    have hcell : ∀ j, j < zs.length → w.cell? ⟨b, off + j, none⟩ = some (.int .i64 (zs.getD j 0)) := by
      intro j hj
      have h4 := q1 j (.raw (.int .i64 (zs.getD j 0))) (by rw [← hl, List.getElem?_map, List.getD_eq_getElem?_getD, List.getElem?_eq_getElem hj]; rfl)
      have h5 := rep_raw' h4
      have h6 := q3 j (by omega) 0 (.int .i64 (zs.getD j 0)) (by rw [h5]; rfl)
      simpa using h6
    rw [hlen]
    refine (Any.slices_Clone_int L b off zs.length c zs w (Nat.le_refl _) h1 hcell).mono ?_
    rintro e w' ⟨v', he, hrow, hne, hbel⟩
    rw [List.take_of_length_le (Nat.le_refl _)] at hrow
    refine ⟨v', he, ext_below hbel, by decide, zs.map (Value.int .i64), fun i => .int .i64 (zs.getD i 0), hrow, fun i s hi => ?_⟩
    rw [← hl, List.getElem?_map] at hi
    cases hq : zs[i]? with
    | none => simp [hq] at hi
    | some z =>
      simp only [hq, Option.map_some, Option.some.injEq] at hi
      subst hi
      simp only [List.getD_eq_getElem?_getD, hq, Option.getD_some]
      refine ⟨Rep.raw _, rfl, fun j u hu => ?_⟩
      have hj0 : j = 0 := by have := (Array.getElem?_eq_some_iff.1 hu).1; simpa [Value.cells] using this
      subst hj0
      simp [Value.cells] at hu; subst hu
      rw [Nat.mul_one, Nat.add_zero, List.getElem?_map, hq]; rfl
end Go.Abs
