/- A store, a new box, a new row, an append: what they do to plain values. No condition. -/
import Derived.Test.YtlokejcoikddgaaAbsLoad
import Derived.Laws.CopyRow
import Derived.Laws.Append
namespace Go.Abs
open Go Go.RowKit Go.Eager

def zeroOf (P : Program) (t : TypeId) : Option Value := (P.info? t).bind (·.zero)
def bytOf (P : Program) (t : TypeId) : Option Nat := (P.info? t).map (·.bytes)

/-- What an operation that changes memory asks, and leaves: a value and a world. -/
def XOk (Γ : Ctx) (a : Act) (w : World) (o : Oper) (ext : Prop) (K : St → Prop) : Prop :=
  oN Γ.P o a w fun v w' => ∃ σ', K σ' ∧ Inv Γ σ' (a.put o.dst v) w' ∧ (ext → Ext w w')

def dstOk (Γ : Ctx) (o : Oper) : Bool := match o.dst with | some d => decide (d < Γ.n) | none => true
theorem dstOk_spec {Γ : Ctx} {o : Oper} (h : dstOk Γ o = true) : ∀ k, o.dst = some k → k < Γ.n := by
  intro k hk; simp [dstOk, hk] at h; exact h

def SV.cells : SV → List SV
  | .agg l => l
  | s => [s]

theorem sv_cells {w : World} {O : Nat → Prop} {s : SV} {v : Value} (h : Rep w O s v) (h1 : (∃ l, s = .agg l) ∨ s.one = true) :
    v.cells.size = s.cells.length ∧ ∀ (j : Nat) (q : SV) (u : Value), s.cells[j]? = some q → v.cells[j]? = some u → Rep w O q u ∧ u.oneCell' = true := by
  rcases h1 with ⟨l, rfl⟩ | h1
  · cases h with
    | agg _ vs hn h1 hr => exact ⟨hn, fun j q u hq hu => ⟨hr j q u hq hu, h1 j u hu⟩⟩
  · have hc : s.cells = [s] := by cases s <;> simp [SV.one] at h1 <;> rfl
    have hv := oneCell_cells (h.oneCell h1)
    rw [hc, hv]
    refine ⟨rfl, fun j q u hq hu => ?_⟩
    have : j = 0 := by cases j with | zero => rfl | succ j => simp at hq
    subst this
    simp at hq hu
    subst hq hu
    exact ⟨h, h.oneCell h1⟩

section
variable {Γ : Ctx} {σ : St} {ρ : Nat → Value} {a : Act} {w : World}

/-- A new box of ours. -/
theorem box_rep {k T : Nat} {cells : List LV} {cs : Array Value} (hn : cs.size = cells.length)
    (hc : ∀ (j : Nat) (lv : LV) (u : Value), cells[j]? = some lv → cs[j]? = some u → (LRep w (Own Γ σ.h ρ) ρ lv u ∧ lv.mentions k = false) ∧ u.oneCell' = true) :
    ERep (w.alloc (.cells cs T)) (Own Γ (ins k (.box cells) σ.h) (upd ρ k (.pointer (some ⟨w.heap.size, 0, none⟩)))) (upd ρ k (.pointer (some ⟨w.heap.size, 0, none⟩))) k (.box cells) := by
  refine ⟨w.heap.size, T, cs, upd_at _ _ _, heap_alloc_new w _, hn, fun j lv u hj hu => ?_⟩
  obtain ⟨⟨h1, h2⟩, h3⟩ := hc j lv u hj hu
  exact ⟨(h1.kp (kp_fresh _ rfl)).upd h2, h3⟩

theorem ok_box_own (I : Iv Γ σ ρ a w) {o : Oper} {t d : Nat} {x : Operand} {s : SV} {K : St → Prop} (ho : o.op = .box t x) (hd : o.dst = some d) (hdn : d < Γ.n) (hx : σ.ev x = .sv s) (h1 : (∃ l, s = .agg l) ∨ s.one = true)
    (hf : σ.free d = true) (hi : Γ.inn d = none) (hk : K ⟨(d, .ptr d 0) :: σ.t, ins d (.box (s.cells.map .sv)) σ.h⟩) : XOk Γ a w o True K := by
  have hX := I.ev x
  rw [hx] at hX
  generalize hv : a.eval x = v at hX
  obtain ⟨h2, h3⟩ := sv_cells hX h1
  have run : (execOp a.eval o).run Γ.P w = .ok (.value (.pointer (some ⟨w.heap.size, 0, none⟩))) (w.alloc (.cells v.cells t)) := by
    simp [execOp, ho, hv, Instr.box, newVar, newRow]
  unfold XOk oN
  rw [run]
  refine ⟨_, hk, ⟨upd ρ d (.pointer (some ⟨w.heap.size, 0, none⟩)), ?_⟩, fun _ => alloc_ext w _⟩
  have I' := I.fresh (k := d) (e := .box (s.cells.map .sv)) (v' := .pointer (some ⟨w.heap.size, 0, none⟩)) (o := .cells v.cells t) hf hi rfl
    (box_rep (by simpa using h2) (fun j lv u hj hu => by
      rw [List.getElem?_map] at hj
      cases hq : s.cells[j]? with
      | none => simp [hq] at hj
      | some q => simp [hq] at hj; subst hj; exact ⟨⟨(h3 j q u hq hu).1, rfl⟩, (h3 j q u hq hu).2⟩))
  have := I'.put (d := some d) (lv := .ptr d 0) (v := .pointer (some ⟨w.heap.size, 0, none⟩)) (by simpa using hdn) ⟨w.heap.size, upd_at _ _ _, rfl⟩
  rw [hd]
  exact this

/-- A new box that no one writes. -/
theorem ok_box (I : Iv Γ σ ρ a w) {o : Oper} {t : Nat} {x : Operand} {s : SV} {K : St → Prop} (ho : o.op = .box t x) (hdn : dstOk Γ o = true) (hx : σ.ev x = .sv s) (h1 : (∃ l, s = .agg l ∧ 0 < l.length) ∨ s.one = true)
    (hk : K (σ.put o.dst (.sv (.ptr s)))) : XOk Γ a w o True K := by
  have hX := I.ev x
  rw [hx] at hX
  generalize hv : a.eval x = v at hX
  have h1' : (∃ l, s = .agg l) ∨ s.one = true := h1.imp (fun ⟨l, h, _⟩ => ⟨l, h⟩) id
  obtain ⟨h2, h3⟩ := sv_cells hX h1'
  have run : (execOp a.eval o).run Γ.P w = .ok (.value (.pointer (some ⟨w.heap.size, 0, none⟩))) (w.alloc (.cells v.cells t)) := by
    simp [execOp, ho, hv, Instr.box, newVar, newRow]
  unfold XOk oN
  rw [run]
  have hx := alloc_ext w (.cells v.cells t)
  refine ⟨_, hk, ⟨ρ, (I.ext hx).put (dstOk_spec hdn) ?_⟩, fun _ => hx⟩
  refine Rep.ptr s w.heap.size 0 v (fun hno => Nat.lt_irrefl _ (blk_lt I hno)) (Rep.kp hX (ekp hx _)) ?_ ?_
  · rw [h2]
    rcases h1 with ⟨l, rfl, hl⟩ | h1
    · exact hl
    · cases s <;> simp [SV.one] at h1 <;> simp [SV.cells]
  · intro j u hu
    rw [cell_of_row _ w.heap.size (0 + j) v.cells t (0, 0) (heap_alloc_new w _), Nat.zero_add]
    exact hu

theorem ok_alloc (I : Iv Γ σ ρ a w) {o : Oper} {t d : Nat} {z : Value} {K : St → Prop} (ho : o.op = .alloc t) (hd : o.dst = some d) (hdn : d < Γ.n) (hz : zeroOf Γ.P t = some z) (h1 : z.cells.all (·.oneCell') = true)
    (hf : σ.free d = true) (hi : Γ.inn d = none) (hk : K ⟨(d, .ptr d 0) :: σ.t, ins d (.box (z.cells.toList.map fun v => .sv (.raw v))) σ.h⟩) : XOk Γ a w o True K := by
  have hz' : (zeroValue t).run Γ.P w = .ok z w := by
    unfold zeroOf at hz
    cases hi : Γ.P.info? t with
    | none => simp [hi] at hz
    | some i => simp [hi] at hz; simp [zeroValue, typeInfo, hi, hz]
  have run : (execOp a.eval o).run Γ.P w = .ok (.value (.pointer (some ⟨w.heap.size, 0, none⟩))) (w.alloc (.cells z.cells t)) := by
    simp [execOp, ho, Instr.alloc, hz', newVar, newRow]
  unfold XOk oN
  rw [run]
  refine ⟨_, hk, ⟨upd ρ d (.pointer (some ⟨w.heap.size, 0, none⟩)), ?_⟩, fun _ => alloc_ext w _⟩
  have I' := I.fresh (k := d) (e := .box (z.cells.toList.map fun v => .sv (.raw v))) (v' := .pointer (some ⟨w.heap.size, 0, none⟩)) (o := .cells z.cells t) hf hi rfl
    (box_rep (by simp) (fun j lv u hj hu => by
      rw [List.getElem?_map] at hj
      have hu' : z.cells.toList[j]? = some u := by simpa using hu
      rw [hu'] at hj
      simp at hj
      subst hj
      exact ⟨⟨Rep.raw u, rfl⟩, (Array.all_eq_true_iff_forall_mem.1 h1) u (Array.mem_of_getElem? hu)⟩))
  have := I'.put (d := some d) (lv := .ptr d 0) (v := .pointer (some ⟨w.heap.size, 0, none⟩)) (by simpa using hdn) ⟨w.heap.size, upd_at _ _ _, rfl⟩
  rw [hd]
  exact this

theorem foldl_set (off : Nat) (m : Nat) : ∀ (v : List Value) (k : Nat) (cs : Array Value), m < cs.size →
    ((v.zipIdx k).foldl (fun cs p => cs.setIfInBounds (off + p.2) p.1) cs)[m]? = if off + k ≤ m ∧ m < off + k + v.length then v[m - off - k]? else cs[m]?
  | [], k, cs, _ => by
    rw [if_neg (by simp only [List.length_nil]; omega)]; rfl
  | x :: v, k, cs, hm => by
    rw [List.zipIdx_cons, List.foldl_cons, foldl_set off m v (k + 1) _ (by simpa using hm)]
    by_cases h1 : off + k = m
    · subst h1
      rw [if_neg (by omega), if_pos (by simp)]
      simp [hm]
    · by_cases h2 : off + (k + 1) ≤ m ∧ m < off + (k + 1) + v.length
      · rw [if_pos h2, if_pos (by simp only [List.length_cons]; omega)]
        rw [show m - off - k = (m - off - (k + 1)) + 1 by omega]; simp
      · rw [if_neg h2, if_neg (by simp only [List.length_cons]; omega), Array.getElem?_setIfInBounds_ne (by simpa using h1)]

theorem foldl_set_size (off : Nat) : ∀ (v : List Value) (k : Nat) (cs : Array Value), ((v.zipIdx k).foldl (fun cs p => cs.setIfInBounds (off + p.2) p.1) cs).size = cs.size
  | [], _, _ => rfl
  | x :: v, k, cs => by rw [List.zipIdx_cons, List.foldl_cons, foldl_set_size off v (k + 1)]; simp

theorem fill_rows (n : Nat) : ∀ (vs : List Value) (k : Nat) (cs : Array Value), (∀ v ∈ vs, v.cells.size = n) → cs.size = (k + vs.length) * n →
    ∃ out, Instr.fill (fun i => some (i * n, n)) cs (vs.zipIdx k |>.map fun p => (p.2, p.1)) = some out ∧ out.size = cs.size ∧ (∀ m, m < k * n → out[m]? = cs[m]?) ∧
      ∀ i v, vs[i]? = some v → ∀ j, j < n → out[(k + i) * n + j]? = v.cells[j]?
  | [], k, cs, _, _ => ⟨cs, by simp [Instr.fill], rfl, fun _ _ => rfl, fun i v h => by simp at h⟩
  | x :: vs, k, cs, hv, hs => by
    have hx : x.cells.size = n := hv x (by simp)
    have hle : k * n + n ≤ cs.size := by
      rw [hs, show k * n + n = (k + 1) * n by rw [Nat.add_mul]; omega]
      exact Nat.mul_le_mul_right _ (by simp)
    let cs1 : Array Value := (x.cells.toList.zipIdx 0).foldl (fun cs p => cs.setIfInBounds (k * n + p.2) p.1) cs
    have hs1 : cs1.size = cs.size := foldl_set_size _ _ _ _
    obtain ⟨out, h1, h2, h3, h4⟩ := fill_rows n vs (k + 1) cs1 (fun v h => hv v (by simp [h])) (by rw [hs1, hs]; simp; congr 1; omega)
    refine ⟨out, ?_, h2.trans hs1, fun m hm => ?_, fun i v hi j hj => ?_⟩
    · rw [List.zipIdx_cons, List.map_cons]
      simp only [Instr.fill]
      rw [if_neg (by simp [hx]; omega)]
      have : (x.cells.zipIdx.foldl (fun cs (c, j) => cs.setIfInBounds (k * n + j) c) cs) = cs1 := by
        show _ = (x.cells.toList.zipIdx 0).foldl _ cs
        rw [← Array.foldl_toList, Array.toList_zipIdx]
      rw [this]
      exact h1
    · rw [h3 m (by rw [Nat.add_mul]; omega), foldl_set _ _ _ _ _ (by omega)]
      rw [if_neg (by omega)]
    · cases i with
      | zero =>
        simp at hi
        subst hi
        have hkm : (k + 1) * n = k * n + n := by rw [Nat.add_mul]; omega
        rw [Nat.add_zero, h3 _ (by omega), foldl_set _ _ _ _ _ (by omega)]
        have hxl : x.cells.toList.length = n := by simpa using hx
        rw [if_pos (by rw [hxl]; omega)]
        rw [show k * n + j - k * n - 0 = j by omega]
        simp
      | succ i =>
        have := h4 i v (by simpa using hi) j hj
        rw [show k + (i + 1) = k + 1 + i by omega]
        exact this

/-- The operands of a literal row, in order. -/
def litParts : Nat → List (Nat × Operand) → Bool
  | _, [] => true
  | k, (i, _) :: l => i == k && litParts (k + 1) l
theorem litParts_spec (f : Operand → Value) : ∀ (l : List (Nat × Operand)) (k : Nat), litParts k l = true → l.map (fun p => (p.1, f p.2)) = ((l.map fun p => f p.2).zipIdx k).map fun p => (p.2, p.1)
  | [], _, _ => rfl
  | (i, x) :: l, k, h => by
    simp only [litParts, Bool.and_eq_true, beq_iff_eq] at h
    simp only [List.map_cons, List.zipIdx_cons]
    rw [← litParts_spec f l (k + 1) h.2, h.1]

/-- A literal row that no one writes. -/
theorem ok_buildSlice (I : Iv Γ σ ρ a w) {o : Oper} {t e n len : Nat} {z : Value} {parts : Array (Nat × Operand)} {l : List SV} {K : St → Prop} (ho : o.op = .buildSlice t len parts) (hdn : dstOk Γ o = true)
    (he : elOf Γ.P t = some (e, n)) (hz : zeroOf Γ.P e = some z) (hn : 0 < n) (hlen : len = parts.size) (hbig : len * n ≤ 16777216) (hp : litParts 0 parts.toList = true)
    (hl : parts.toList.map (fun p => σ.ev p.2) = l.map LV.sv) (h1 : ∀ s ∈ l, ((∃ c, s = .agg c) ∨ s.one = true) ∧ s.cells.length = n)
    (hk : K (σ.put o.dst (.sv (.sl n l)))) : XOk Γ a w o True K := by
  obtain ⟨hu, hs⟩ := elOf_spec he
  have hz' : (zeroValue e).run Γ.P w = .ok z w := by
    unfold zeroOf at hz
    cases hi : Γ.P.info? e with
    | none => simp [hi] at hz
    | some i => simp [hi] at hz; simp [zeroValue, typeInfo, hi, hz]
  have hll : l.length = len := by have := congrArg List.length hl; simp at this; omega
  let vs := parts.toList.map fun p => a.eval p.2
  have hvs : ∀ (i : Nat) (s : SV), l[i]? = some s → ∃ v, vs[i]? = some v ∧ Rep w (Own Γ σ.h ρ) s v := by
    intro i s hi
    have h2 : (parts.toList.map fun p => σ.ev p.2)[i]? = some (.sv s) := by rw [hl, List.getElem?_map, hi]; rfl
    rw [List.getElem?_map] at h2
    cases hp2 : parts.toList[i]? with
    | none => simp [hp2] at h2
    | some p =>
      simp only [hp2, Option.map_some, Option.some.injEq] at h2
      refine ⟨a.eval p.2, by simp [vs, List.getElem?_map, hp2], ?_⟩
      have := I.ev p.2
      rw [h2] at this
      exact this
  have hvl : vs.length = len := by simp [vs]; omega
  have hcs : ∀ v ∈ vs, v.cells.size = n := by
    intro v hv
    obtain ⟨i, hi⟩ := List.getElem?_of_mem hv
    have hlt : i < l.length := by rw [hll, ← hvl]; exact (List.getElem?_eq_some_iff.1 hi).1
    obtain ⟨v', hv', hr⟩ := hvs i l[i] (List.getElem?_eq_getElem hlt)
    rw [hi] at hv'
    cases hv'
    have h3 := h1 l[i] (List.getElem_mem hlt)
    rw [(sv_cells hr h3.1).1]; exact h3.2
  let cs0 : Array Value := (Array.range (len * n)).map (z.cells[· % z.cells.size]!)
  obtain ⟨out, hf, hos, _, hcell⟩ := fill_rows n vs 0 cs0 hcs (by simp [cs0, hvl])
  have hparts : (parts.map fun p => (p.1, a.eval p.2)).toList = (vs.zipIdx 0).map fun p => (p.2, p.1) := by
    rw [Array.toList_map]; exact litParts_spec a.eval parts.toList 0 hp
  have run : (execOp a.eval o).run Γ.P w = .ok (.value (.slice (some ⟨w.heap.size, 0, none⟩) len len)) (w.alloc (.cells out e)) := by
    have hb : ¬ (16777216 < len * n) := by omega
    by_cases h0 : len * n = 0
    · have hl0 : len = 0 := by rcases Nat.mul_eq_zero.1 h0 with h | h <;> omega
      have hcs0 : cs0 = #[] := by simp [cs0, h0]
      have hf' : Instr.fill (fun i => some (i * n, n)) #[] (parts.map fun p => (p.1, a.eval p.2)).toList = some out := by rw [hparts, ← hcs0]; exact hf
      simp only [Array.toList_map] at hf'
      simp [execOp, ho, Instr.buildSlice, run_underlying hu, run_sizeOf hs, newRow, hf', hl0, show Array.range 0 = #[] from rfl]
    · have hf' : Instr.fill (fun i => some (i * n, n)) ((Array.range (len * n)).map (z.cells[· % z.cells.size]!)) (parts.map fun p => (p.1, a.eval p.2)).toList = some out := by rw [hparts]; exact hf
      simp only [Array.toList_map] at hf'
      simp [execOp, ho, Instr.buildSlice, run_underlying hu, run_sizeOf hs, hb, h0, hz', newRow, hf']
  unfold XOk oN
  rw [run]
  have hx := alloc_ext w (.cells out e)
  refine ⟨_, hk, ⟨ρ, (I.ext hx).put (dstOk_spec hdn) ?_⟩, fun _ => hx⟩
  rw [← hll]
  by_cases hl0 : l.length = 0
  · have : l = [] := List.eq_nil_of_length_eq_zero hl0
    subst this
    exact Rep.nil _ _ _
  · refine Rep.sl n l w.heap.size 0 _ (fun i => vs.getD i undef) (fun hno => Nat.lt_irrefl _ (blk_lt I hno)) (by omega) (Nat.le_refl _) hn ?_ ?_ ?_
    · intro i s hi
      obtain ⟨v, hv, hr⟩ := hvs i s hi
      rw [List.getD_eq_getElem?_getD, hv]
      exact Rep.kp hr (ekp hx _)
    · intro i hi
      refine hcs _ ?_
      have hlt : i < vs.length := by omega
      rw [List.getD_eq_getElem?_getD, List.getElem?_eq_getElem hlt]
      exact List.getElem_mem hlt
    · intro i hi j u hu
      have hlt : i < vs.length := by omega
      rw [List.getD_eq_getElem?_getD, List.getElem?_eq_getElem hlt] at hu
      have hjn : j < n := by
        have := hcs _ (List.getElem_mem hlt)
        have h2 := (Array.getElem?_eq_some_iff.1 hu).1
        simp at h2; omega
      have h3 := hcell i vs[i] (List.getElem?_eq_getElem hlt) j hjn
      rw [Nat.zero_add] at h3
      rw [cell_of_row _ w.heap.size _ out e (0, 0) (heap_alloc_new w _)]
      rw [Nat.zero_add, h3]
      exact hu
end
end Go.Abs
