/- A literal slice that is to grow: a row of ours. No condition. -/
import Derived.Test.YtlokejcoikddgaaAbsStr
namespace Go.Abs
open Go Go.RowKit Go.Eager
set_option linter.unusedVariables false
section
variable {Γ : Ctx} {σ : St} {ρ : Nat → Value} {a : Act} {w : World}
theorem ok_buildSliceO (I : Iv Γ σ ρ a w) {o : Oper} {t e n len d : Nat} {z : Value} {parts : Array (Nat × Operand)} {l : List SV} {K : St → Prop} (ho : o.op = .buildSlice t len parts) (hd : o.dst = some d) (hdn : d < Γ.n) (hf0 : σ.free d = true) (hi0 : Γ.inn d = none)
    (he : elOf Γ.P t = some (e, n)) (hz : zeroOf Γ.P e = some z) (hn : 0 < n) (hlen : len = parts.size) (hbig : len * n ≤ 16777216) (hp : litParts 0 parts.toList = true)
    (hl : parts.toList.map (fun p => σ.ev p.2) = l.map LV.sv) (h1 : ∀ s ∈ l, ((∃ c, s = .agg c) ∨ s.one = true) ∧ s.cells.length = n)
    (hk : K ⟨(d, .own d) :: σ.t, ins d (.row n e l) σ.h⟩) : XOk Γ a w o True K := by
  obtain ⟨hu, hs⟩ := elOf_spec he
  have hz' : (zeroValue e).run Γ.P w = .ok z w := by
    unfold zeroOf at hz
    cases hi : Γ.P.info? e with
    | none => simp [hi] at hz
    | some i => simp [hi] at hz; simp [zeroValue, typeInfo, hi, hz]
  have hll : l.length = len := by have := congrArg List.length hl; simp at this; omega
  let vs := parts.toList.map fun p => a.eval p.2
  have hvs : ∀ (i : Nat) (s : SV), l[i]? = some s → ∃ v, vs[i]? = some v ∧ Rep w (Own Γ σ.h ρ) s v := by
    intro i s hi
    have h2 : (parts.toList.map fun p => σ.ev p.2)[i]? = some (.sv s) := by rw [hl, List.getElem?_map, hi]; rfl
    rw [List.getElem?_map] at h2
    cases hp2 : parts.toList[i]? with
    | none => simp [hp2] at h2
    | some p =>
      simp only [hp2, Option.map_some, Option.some.injEq] at h2
      refine ⟨a.eval p.2, by simp [vs, List.getElem?_map, hp2], ?_⟩
      have := I.ev p.2
      rw [h2] at this
      exact this
  have hvl : vs.length = len := by simp [vs]; omega
  have hcs : ∀ v ∈ vs, v.cells.size = n := by
    intro v hv
    obtain ⟨i, hi⟩ := List.getElem?_of_mem hv
    have hlt : i < l.length := by rw [hll, ← hvl]; exact (List.getElem?_eq_some_iff.1 hi).1
    obtain ⟨v', hv', hr⟩ := hvs i l[i] (List.getElem?_eq_getElem hlt)
    rw [hi] at hv'
    cases hv'
    have h3 := h1 l[i] (List.getElem_mem hlt)
    rw [(sv_cells hr h3.1).1]; exact h3.2
  let cs0 : Array Value := (Array.range (len * n)).map (z.cells[· % z.cells.size]!)
  obtain ⟨out, hf, hos, _, hcell⟩ := fill_rows n vs 0 cs0 hcs (by simp [cs0, hvl])
  have hparts : (parts.map fun p => (p.1, a.eval p.2)).toList = (vs.zipIdx 0).map fun p => (p.2, p.1) := by
    rw [Array.toList_map]; exact litParts_spec a.eval parts.toList 0 hp
  have run : (execOp a.eval o).run Γ.P w = .ok (.value (.slice (some ⟨w.heap.size, 0, none⟩) len len)) (w.alloc (.cells out e)) := by
    have hb : ¬ (16777216 < len * n) := by omega
    by_cases h0 : len * n = 0
    · have hl0 : len = 0 := by rcases Nat.mul_eq_zero.1 h0 with h | h <;> omega
      have hcs0 : cs0 = #[] := by simp [cs0, h0]
      have hf' : Instr.fill (fun i => some (i * n, n)) #[] (parts.map fun p => (p.1, a.eval p.2)).toList = some out := by rw [hparts, ← hcs0]; exact hf
      simp only [Array.toList_map] at hf'
      simp [execOp, ho, Instr.buildSlice, run_underlying hu, run_sizeOf hs, newRow, hf', hl0, show Array.range 0 = #[] from rfl]
    · have hf' : Instr.fill (fun i => some (i * n, n)) ((Array.range (len * n)).map (z.cells[· % z.cells.size]!)) (parts.map fun p => (p.1, a.eval p.2)).toList = some out := by rw [hparts]; exact hf
      simp only [Array.toList_map] at hf'
      simp [execOp, ho, Instr.buildSlice, run_underlying hu, run_sizeOf hs, hb, h0, hz', newRow, hf']
  unfold XOk oN
  rw [run]
  have hx := alloc_ext w (.cells out e)
  have hmax : len ≤ maxLen := by
    have : len ≤ len * n := Nat.le_mul_of_pos_right _ hn
    unfold maxLen; omega
  have hE : ERep (w.alloc (.cells out e)) (Own Γ (ins d (.row n e l) σ.h) (upd ρ d (.slice (some ⟨w.heap.size, 0, none⟩) len len))) (upd ρ d (.slice (some ⟨w.heap.size, 0, none⟩) len len)) d (.row n e l) := by
    have kp : Kp w (Own Γ σ.h ρ) (w.alloc (.cells out e)) (Own Γ (ins d (.row n e l) σ.h) (upd ρ d (.slice (some ⟨w.heap.size, 0, none⟩) len len))) := by
      intro b hb hno
      refine ⟨hx.block b hb, ?_⟩
      rintro (hO | ⟨k, e', hk', hb'⟩)
      · exact hno (.inl hO)
      · rw [lookup_ins] at hk'
        by_cases hkd : k = d
        · subst hkd; rw [upd_at] at hb'; simp [blk] at hb'; omega
        · rw [if_neg hkd] at hk'; rw [upd_ne _ _ hkd] at hb'; exact hno (.inr ⟨k, e', hk', hb'⟩)
    refine ⟨hn, out.toList, fun i => vs.getD i undef, ⟨by simp [hos, cs0, hll], .inr ⟨w.heap.size, len, out, by rw [upd_at, hll], Nat.zero_le _, heap_alloc_new w _, by omega, hmax, by rw [hos]; simp [cs0], List.take_of_length_le (by rw [Array.length_toList, hos, hll]; simp [cs0])⟩⟩, fun i s hi => ?_⟩
    obtain ⟨v, hv, hr⟩ := hvs i s hi
    have hvd : (fun i => vs.getD i undef) i = v := by show vs.getD i undef = v; rw [List.getD_eq_getElem?_getD, hv]; rfl
    rw [hvd]
    refine ⟨Rep.kp hr kp, hcs v (List.mem_of_getElem? hv), fun j u hu => ?_⟩
    have hjn : j < n := by
      have := hcs v (List.mem_of_getElem? hv)
      have h2 := (Array.getElem?_eq_some_iff.1 hu).1
      omega
    have h3 := hcell i v hv j hjn
    rw [Nat.zero_add] at h3
    rw [Array.getElem?_toList, h3]; exact hu
  have I' := I.fresh (k := d) (e := .row n e l) (v' := .slice (some ⟨w.heap.size, 0, none⟩) len len) (o := .cells out e) hf0 hi0 rfl hE
  refine ⟨_, hk, ⟨upd ρ d (.slice (some ⟨w.heap.size, 0, none⟩) len len), ?_⟩, fun _ => hx⟩
  rw [hd]
  exact I'.put (d := some d) (lv := .own d) (v := .slice (some ⟨w.heap.size, 0, none⟩) len len) (by simpa using hdn) (upd_at _ _ _).symm
end
section
variable {Γ : Ctx} {ops : Array Oper} {l : List (Oper × Nat)} {t : List (Nat × LV)} {h : List (Nat × Ent)} {K : St → Prop} {c d ty : Nat} {ps : String} {af : Array Edge} {x : Operand}
/-- A literal slice of one element, that is to grow. -/
theorem q_lito1 {S e n : Nat} (z : Value) (s : SV) (he : elOf Γ.P S = some (e, n)) (hz : zeroOf Γ.P e = some z) (hn : 0 < n) (hbig : n ≤ 16777216) (hf : St.free ⟨t, h⟩ d = true) (hi : Γ.inn d = none) (hx : St.ev ⟨t, h⟩ x = .sv s) (h1 : (∃ c, s = .agg c) ∨ s.one = true) (h2 : s.cells.length = n)
    (hk : RunL Γ ops l ⟨(d, .own d) :: t, ins d (.row n e [s]) h⟩ K) : RunL Γ ops ((⟨some d, .buildSlice S 1 #[(0, x)], ty, ps, af, none⟩, c + 2) :: l) ⟨t, h⟩ K :=
  run_x (ext := True) rfl (by omega) (fun _ => trivial) fun _ _ _ I hd => ok_buildSliceO (l := [s]) I rfl rfl (by simpa [dstOk] using hd) hf hi he hz hn rfl (by omega) rfl (by simp [hx]) (by simp; exact ⟨h1, h2⟩) hk
end
end Go.Abs
