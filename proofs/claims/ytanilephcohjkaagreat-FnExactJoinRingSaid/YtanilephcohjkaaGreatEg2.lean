/- The engine, part 2: a layer of plain values over the model. No condition. -/
import Derived.Test.YtanilephcohjkaaGreatEg1
import Derived.Lib.ConvBytes
import Derived.Laws.AppendOwn
import Derived.Laws.BytesString
import Derived.Room.Shelf.Join48
import Derived.Laws.CopyRow
import Derived.Lib.OwnBridge
import Derived.Shelf.Sort.Plain
import Derived.Shelf.Slices.Clone
import Derived.Shelf.SlSortCmp.WholeK
import Derived.Laws.Tables
import Derived.Shelf.Spec.SlicesInsertGrow
/- The bytes of a text as a row. No condition. -/
namespace Go.Abs
open Go Go.RowKit Go.Eager
set_option linter.unusedVariables false
theorem bytes_ext (w : World) (e : TypeId) (s : ByteArray) : Ext w (Lib.bytesWorld w e s) := by
  refine ⟨?_, ?_, ?_, ?_, fun k hk => Lib.bytesWorld_at_old w e s k hk⟩
  · simp [Lib.bytesWorld, World.freeze, World.alloc, World.drew, -World.alloc_eq, -World.drew_eq]
  · simp [Lib.bytesWorld, World.freeze, World.alloc, World.drew, -World.alloc_eq, -World.drew_eq]
  · simp [Lib.bytesWorld, World.freeze, World.alloc, World.drew, -World.alloc_eq, -World.drew_eq]
  · rw [Lib.bytesWorld_size]; omega
theorem rep_sl {w : World} {O : Nat → Prop} {n : Nat} {l : List SV} {v : Value} (h : Rep w O (.sl n l) v) : ∃ q m c, v = .slice q m c := by cases h <;> exact ⟨_, _, _, rfl⟩
theorem rep_raw' {w : World} {O : Nat → Prop} {v u : Value} (h : Rep w O (.raw u) v) : v = u := by cases h; rfl
@[reducible] def byteSV (b : UInt8) : SV := .raw (.int .u8 b.toNat)
theorem fold_push : ∀ (bs : List UInt8) (r : ByteArray), (bs.map fun b => (b.toNat : Int)).foldl (fun r n => r.push (UInt8.ofNat n.toNat)) r = ⟨r.data ++ bs.toArray⟩
  | [], r => by simp
  | b :: bs, r => by
    simp only [List.map_cons, List.foldl_cons, Int.toNat_natCast, UInt8.ofNat_toNat]
    rw [fold_push bs (r.push b)]
    simp [ByteArray.push]
theorem run_rep_string {P : Program} {w : World} {O : Nat → Prop} {bs : List UInt8} {v : Value} (h : Rep w O (.sl 1 (bs.map byteSV)) v) : (Conv.bytesToString v).run P w = .ok (.string ⟨bs.toArray⟩) w := by
  generalize hl : bs.map byteSV = l at h
  cases h with
  | nil sz a c =>
    have hb : bs = [] := by cases bs with | nil => rfl | cons b bs => simp at hl
    subst hb
    cases a with
    | none => simp [Conv.bytesToString, Sem.run_pure]; rfl
    | some a =>
      have := run_bytesToString (P := P) w a 0 c [] (by have := run_loadCells_list (P := P) (w := w) a [] (by simp); simpa using this)
      rw [this]; rfl
  | sl sz l b off c vals hb hl' hc hz h1 h2 h3 =>
    have hlen : l.length = bs.length := by rw [← hl]; simp
    have hv : ∀ i b', bs[i]? = some b' → w.cell? ⟨b, off + i, none⟩ = some (.int .u8 b'.toNat) := by
      intro i b' hi
      have h4 := h1 i (byteSV b') (by rw [← hl, List.getElem?_map, hi]; rfl)
      have h5 := rep_raw' h4
      have h6 := h3 i (by rw [hlen]; exact (List.getElem?_eq_some_iff.1 hi).1) 0 (.int .u8 b'.toNat) (by rw [h5]; rfl)
      simpa using h6
    rw [hlen]
    have hld := run_loadCells_list (P := P) (w := w) ⟨b, off, none⟩ (bs.map fun b' => Value.int .u8 b'.toNat) (fun j u hu => by
      rw [List.getElem?_map] at hu
      cases hq : bs[j]? with
      | none => simp [hq] at hu
      | some q => simp [hq] at hu; subst hu; rw [addr_add]; exact hv j q hq)
    rw [List.length_map] at hld
    have := run_bytesToString (P := P) w ⟨b, off, none⟩ bs.length c (bs.map fun b' => (b'.toNat : Int)) (by rw [hld]; simp [Function.comp_def])
    rw [this, fold_push]; simp
section
variable {Γ : Ctx} {ops : Array Oper} {l : List (Oper × Nat)} {t : List (Nat × LV)} {h : List (Nat × Ent)} {K : St → Prop} {c d ty : Nat} {ps : String} {af : Array Edge} {x : Operand}
theorem q_cvb {s : ByteArray} {S D e : Nat} (hs : Γ.P.underlying S = some .string) (hD : Γ.P.underlying D = some (.slice e)) (he : Γ.P.underlying e = some (.int .u8)) (hx : St.ev ⟨t, h⟩ x = .sv (.raw (.string s)))
    (hk : RunL Γ ops l ⟨(d, .sv (.sl 1 (s.data.toList.map fun b => .raw (.int .u8 b.toNat)))) :: t, h⟩ K) :
    RunL Γ ops ((⟨some d, .convert S D x, ty, ps, af, none⟩, c + 2) :: l) ⟨t, h⟩ K := by
  refine run_x (ext := True) rfl (by omega) (fun _ => trivial) fun a w ρ I hd => ?_
  have run : (execOp a.eval ⟨some d, .convert S D x, ty, ps, af, none⟩).run Γ.P w = .ok (.value (.slice (some ⟨w.heap.size, 0, none⟩) s.size (grownCap w s.size 0 e))) (Lib.bytesWorld w e s) := by
    simp [execOp, ev_raw I hx, Lib.run_convert_string_bytes w S D e s hs hD he]
  unfold XOk oN
  rw [run]
  have hx' := bytes_ext w e s
  have I' := I.ext hx'
  refine ⟨_, hk, ⟨ρ, ?_⟩, fun _ => hx'⟩
  refine I'.put (d := some d) (by simpa [dstOk] using hd) ?_
  have hlen : (s.data.toList.map fun b => SV.raw (.int .u8 b.toNat)).length = s.size := by simp
  have hnew : ¬ Own Γ h ρ w.heap.size := by
    rintro (hO | ⟨k, e', hk', hb⟩)
    · have := I.out _ hO
      have := I.frm.size
      omega
    · have := (I.new k e' _ hk' hb).2
      omega
  show Rep _ _ _ _
  rcases Nat.eq_zero_or_pos s.size with h0 | h0
  · have hl : (s.data.toList.map fun b => SV.raw (.int .u8 b.toNat)) = [] := List.eq_nil_of_length_eq_zero (by rw [hlen]; exact h0)
    rw [hl, h0]; exact Rep.nil _ _ _
  · rw [← hlen]
    refine Rep.sl 1 _ w.heap.size 0 _ (fun i => .int .u8 (s.data.toList.getD i 0).toNat) hnew (by rw [hlen]; exact h0) ?_ (by decide) ?_ (fun i _ => rfl) ?_
    · rw [hlen]; exact grownCap_ge _ _ _ _
    · intro i q hi
      rw [List.getElem?_map] at hi
      cases hb : s.data.toList[i]? with
      | none => simp [hb] at hi
      | some b =>
        simp only [hb, Option.map_some, Option.some.injEq] at hi
        subst hi
        rw [List.getD_eq_getElem?_getD, hb]; exact Rep.raw _
    · intro i hi j u hu
      rw [hlen] at hi
      have hj : j = 0 := by
        have := (Array.getElem?_eq_some_iff.1 hu).1
        simp [Value.cells] at this; exact this
      subst hj
      simp [Value.cells] at hu
      subst hu
      simpa using Lib.bytesWorld_cell w e s i hi
theorem q_cvo {bs : List UInt8} {S D e k T : Nat} (hs : Γ.P.underlying S = some (.slice e)) (he : Γ.P.underlying e = some (.int .u8)) (hD : Γ.P.underlying D = some .string) (hx : St.ev ⟨t, h⟩ x = .own k) (hh : h.lookup k = some (.row 1 T (bs.map byteSV)))
    (hk : RunL Γ ops l ⟨(d, .sv (.raw (.string ⟨bs.toArray⟩))) :: t, h⟩ K) : RunL Γ ops ((⟨some d, .convert S D x, ty, ps, af, none⟩, c + 2) :: l) ⟨t, h⟩ K := by
  refine run_x (ext := True) rfl (by omega) (fun _ => trivial) fun a w ρ I hd => ?_
  have hX := I.ev x
  rw [hx] at hX
  have hX' : a.eval x = ρ k := hX
  have hr := row_view0 I hh
  have run : (execOp a.eval ⟨some d, .convert S D x, ty, ps, af, none⟩).run Γ.P w = .ok (.value (.string ⟨bs.toArray⟩)) w := by
    have h1 := run_rep_string (P := Γ.P) hr
    have h2 : ∃ q n cc, ρ k = .slice q n cc := rep_sl hr
    obtain ⟨q, n, cc, hq⟩ := h2
    rw [hq] at h1
    simp [execOp, hX', hq, run_convert_bytes_string w S D e q n cc hs he hD, h1]
  unfold XOk oN
  rw [run]
  exact ⟨_, hk, ⟨ρ, I.put (d := some d) (by simpa [dstOk] using hd) (Rep.raw _)⟩, fun _ => Ext.refl w⟩
end
end Go.Abs

/- A literal slice that is to grow: a row of ours. No condition. -/
namespace Go.Abs
open Go Go.RowKit Go.Eager
set_option linter.unusedVariables false
section
variable {Γ : Ctx} {σ : St} {ρ : Nat → Value} {a : Act} {w : World}
theorem ok_buildSliceO (I : Iv Γ σ ρ a w) {o : Oper} {t e n len d : Nat} {z : Value} {parts : Array (Nat × Operand)} {l : List SV} {K : St → Prop} (ho : o.op = .buildSlice t len parts) (hd : o.dst = some d) (hdn : d < Γ.n) (hf0 : σ.free d = true) (hi0 : Γ.inn d = none)
    (he : elOf Γ.P t = some (e, n)) (hz : zeroOf Γ.P e = some z) (hn : 0 < n) (hlen : len = parts.size) (hbig : len * n ≤ 16777216) (hp : litParts 0 parts.toList = true)
    (hl : parts.toList.map (fun p => σ.ev p.2) = l.map LV.sv) (h1 : ∀ s ∈ l, ((∃ c, s = .agg c) ∨ s.one = true) ∧ s.cells.length = n)
    (hk : K ⟨(d, .own d) :: σ.t, ins d (.row n e l) σ.h⟩) : XOk Γ a w o True K := by
  obtain ⟨hu, hs⟩ := elOf_spec he
  have hz' : (zeroValue e).run Γ.P w = .ok z w := by
    unfold zeroOf at hz
    cases hi : Γ.P.info? e with
    | none => simp [hi] at hz
    | some i => simp [hi] at hz; simp [zeroValue, typeInfo, hi, hz]
  have hll : l.length = len := by have := congrArg List.length hl; simp at this; omega
  let vs := parts.toList.map fun p => a.eval p.2
  have hvs : ∀ (i : Nat) (s : SV), l[i]? = some s → ∃ v, vs[i]? = some v ∧ Rep w (Own Γ σ.h ρ) s v := by
    intro i s hi
    have h2 : (parts.toList.map fun p => σ.ev p.2)[i]? = some (.sv s) := by rw [hl, List.getElem?_map, hi]; rfl
    rw [List.getElem?_map] at h2
    cases hp2 : parts.toList[i]? with
    | none => simp [hp2] at h2
    | some p =>
      simp only [hp2, Option.map_some, Option.some.injEq] at h2
      refine ⟨a.eval p.2, by simp [vs, List.getElem?_map, hp2], ?_⟩
      have := I.ev p.2
      rw [h2] at this
      exact this
  have hvl : vs.length = len := by simp [vs]; omega
  have hcs : ∀ v ∈ vs, v.cells.size = n := by
    intro v hv
    obtain ⟨i, hi⟩ := List.getElem?_of_mem hv
    have hlt : i < l.length := by rw [hll, ← hvl]; exact (List.getElem?_eq_some_iff.1 hi).1
    obtain ⟨v', hv', hr⟩ := hvs i l[i] (List.getElem?_eq_getElem hlt)
    rw [hi] at hv'
    cases hv'
    have h3 := h1 l[i] (List.getElem_mem hlt)
    rw [(sv_cells hr h3.1).1]; exact h3.2
  let cs0 : Array Value := (Array.range (len * n)).map (z.cells[· % z.cells.size]!)
  obtain ⟨out, hf, hos, _, hcell⟩ := fill_rows n vs 0 cs0 hcs (by simp [cs0, hvl])
  have hparts : (parts.map fun p => (p.1, a.eval p.2)).toList = (vs.zipIdx 0).map fun p => (p.2, p.1) := by
    rw [Array.toList_map]; exact litParts_spec a.eval parts.toList 0 hp
  have run : (execOp a.eval o).run Γ.P w = .ok (.value (.slice (some ⟨w.heap.size, 0, none⟩) len len)) (w.alloc (.cells out e)) := by
    have hb : ¬ (16777216 < len * n) := by omega
    by_cases h0 : len * n = 0
    · have hl0 : len = 0 := by rcases Nat.mul_eq_zero.1 h0 with h | h <;> omega
      have hcs0 : cs0 = #[] := by simp [cs0, h0]
      have hf' : Instr.fill (fun i => some (i * n, n)) #[] (parts.map fun p => (p.1, a.eval p.2)).toList = some out := by rw [hparts, ← hcs0]; exact hf
      simp only [Array.toList_map] at hf'
      simp [execOp, ho, Instr.buildSlice, run_underlying hu, run_sizeOf hs, newRow, hf', hl0, show Array.range 0 = #[] from rfl]
    · have hf' : Instr.fill (fun i => some (i * n, n)) ((Array.range (len * n)).map (z.cells[· % z.cells.size]!)) (parts.map fun p => (p.1, a.eval p.2)).toList = some out := by rw [hparts]; exact hf
      simp only [Array.toList_map] at hf'
      simp [execOp, ho, Instr.buildSlice, run_underlying hu, run_sizeOf hs, hb, h0, hz', newRow, hf']
  unfold XOk oN
  rw [run]
  have hx := alloc_ext w (.cells out e)
  have hmax : len ≤ maxLen := by
    have : len ≤ len * n := Nat.le_mul_of_pos_right _ hn
    unfold maxLen; omega
  have hE : ERep (w.alloc (.cells out e)) (Own Γ (ins d (.row n e l) σ.h) (upd ρ d (.slice (some ⟨w.heap.size, 0, none⟩) len len))) (upd ρ d (.slice (some ⟨w.heap.size, 0, none⟩) len len)) d (.row n e l) := by
    have kp : Kp w (Own Γ σ.h ρ) (w.alloc (.cells out e)) (Own Γ (ins d (.row n e l) σ.h) (upd ρ d (.slice (some ⟨w.heap.size, 0, none⟩) len len))) := by
      intro b hb hno
      refine ⟨hx.block b hb, ?_⟩
      rintro (hO | ⟨k, e', hk', hb'⟩)
      · exact hno (.inl hO)
      · rw [lookup_ins] at hk'
        by_cases hkd : k = d
        · subst hkd; rw [upd_at] at hb'; simp [blk] at hb'; omega
        · rw [if_neg hkd] at hk'; rw [upd_ne _ _ hkd] at hb'; exact hno (.inr ⟨k, e', hk', hb'⟩)
    refine ⟨hn, out.toList, fun i => vs.getD i undef, ⟨by simp [hos, cs0, hll], .inr ⟨w.heap.size, len, out, by rw [upd_at, hll], Nat.zero_le _, heap_alloc_new w _, by omega, hmax, by rw [hos]; simp [cs0], List.take_of_length_le (by rw [Array.length_toList, hos, hll]; simp [cs0])⟩⟩, fun i s hi => ?_⟩
    obtain ⟨v, hv, hr⟩ := hvs i s hi
    have hvd : (fun i => vs.getD i undef) i = v := by show vs.getD i undef = v; rw [List.getD_eq_getElem?_getD, hv]; rfl
    rw [hvd]
    refine ⟨Rep.kp hr kp, hcs v (List.mem_of_getElem? hv), fun j u hu => ?_⟩
    have hjn : j < n := by
      have := hcs v (List.mem_of_getElem? hv)
      have h2 := (Array.getElem?_eq_some_iff.1 hu).1
      omega
    have h3 := hcell i v hv j hjn
    rw [Nat.zero_add] at h3
    rw [Array.getElem?_toList, h3]; exact hu
  have I' := I.fresh (k := d) (e := .row n e l) (v' := .slice (some ⟨w.heap.size, 0, none⟩) len len) (o := .cells out e) hf0 hi0 rfl hE
  refine ⟨_, hk, ⟨upd ρ d (.slice (some ⟨w.heap.size, 0, none⟩) len len), ?_⟩, fun _ => hx⟩
  rw [hd]
  exact I'.put (d := some d) (lv := .own d) (v := .slice (some ⟨w.heap.size, 0, none⟩) len len) (by simpa using hdn) (upd_at _ _ _).symm
end
section
variable {Γ : Ctx} {ops : Array Oper} {l : List (Oper × Nat)} {t : List (Nat × LV)} {h : List (Nat × Ent)} {K : St → Prop} {c d ty : Nat} {ps : String} {af : Array Edge} {x : Operand}
theorem q_lito1 {S e n : Nat} (z : Value) (s : SV) (he : elOf Γ.P S = some (e, n)) (hz : zeroOf Γ.P e = some z) (hn : 0 < n) (hbig : n ≤ 16777216) (hf : St.free ⟨t, h⟩ d = true) (hi : Γ.inn d = none) (hx : St.ev ⟨t, h⟩ x = .sv s) (h1 : (∃ c, s = .agg c) ∨ s.one = true) (h2 : s.cells.length = n)
    (hk : RunL Γ ops l ⟨(d, .own d) :: t, ins d (.row n e [s]) h⟩ K) : RunL Γ ops ((⟨some d, .buildSlice S 1 #[(0, x)], ty, ps, af, none⟩, c + 2) :: l) ⟨t, h⟩ K :=
  run_x (ext := True) rfl (by omega) (fun _ => trivial) fun _ _ _ I hd => ok_buildSliceO (l := [s]) I rfl rfl (by simpa [dstOk] using hd) hf hi he hz hn rfl (by omega) rfl (by simp [hx]) (by simp; exact ⟨h1, h2⟩) hk
end
end Go.Abs

/- strings.Join and what the library says of rows, as what a function says of plain values. No condition beyond the lengths. -/
namespace Go.Abs
open Go Go.RowKit Go.Eager Go.Shelf Go.Proofs
set_option linter.unusedVariables false
theorem ext_below {w w' : World} (h : Below w.heap.size w w') : Ext w w' := ⟨h.os, h.tape, h.output, h.size, h.block⟩
theorem pfn_join {P : Program} {ρ : Ren} (L : Lays.n156 P ρ) (X : Builder.Extra P ρ) (xs : List ByteArray) (sep : ByteArray) (hN : xs.length ≤ 140737488355328)
    (hlen : (Lib.join (xs.map (·.data.toList)) sep.data.toList).length ≤ 281474976710656) :
    PFn P (ρ.f 156) [.sl 1 (xs.map fun x => .raw (.string x)), .raw (.string sep)] (.raw (.string ⟨(Lib.join (xs.map (·.data.toList)) sep.data.toList).toArray⟩)) := by
  intro w O vs hO hsz hr
  obtain ⟨v0, v1, rfl⟩ : ∃ v0 v1, vs = #[v0, v1] := by
    match vs, hsz with
    | ⟨[a, b]⟩, _ => exact ⟨a, b, rfl⟩
  have h0 := hr 0 _ v0 rfl rfl
  have h1 := rep_raw' (hr 1 _ v1 rfl rfl)
  subst h1
  generalize hl : (xs.map fun x => SV.raw (.string x)) = l at h0
  cases h0 with
  | nil sz a c =>
    have hx : xs = [] := by cases xs with | nil => rfl | cons b bs => simp at hl
    subst hx
    exact (Any.strings_Join_none L X a c sep w).mono fun e w' ⟨he, hw⟩ => ⟨_, he, hw ▸ Ext.refl w, Rep.raw _⟩
  | sl sz l b off c vals hb hl' hc hz h1 h2 h3 =>
    have hlen' : l.length = xs.length := by rw [← hl]; simp
    have hv : ∀ j x, xs[j]? = some x → w.cell? ⟨b, off + j, none⟩ = some (.string x) := by
      intro i x hi
      have h4 := h1 i (.raw (.string x)) (by rw [← hl, List.getElem?_map, hi]; rfl)
      have h5 := rep_raw' h4
      have h6 := h3 i (by rw [hlen']; exact (List.getElem?_eq_some_iff.1 hi).1) 0 (.string x) (by rw [h5]; rfl)
      simpa using h6
    rw [hlen']
    have hbk : b < w.heap.size := by
      obtain ⟨x, hx⟩ : ∃ x, xs[0]? = some x := ⟨_, List.getElem?_eq_getElem (by omega)⟩
      exact World.block_lt_of_cell? w _ (hv 0 x hx)
    exact (Any.strings_Join_48 L X b off c xs sep w hv hbk hN (by omega) hlen).mono fun e w' ⟨he, hb⟩ => ⟨_, he, ext_below hb, Rep.raw _⟩
end Go.Abs

/- Calls that hand back a row of their own; the rest of a row of ours, and a copy within it; a row that the library puts in order. No condition. -/
namespace Go.Abs
open Go Go.RowKit Go.Eager
set_option linter.unusedVariables false

def PFnO (P : Program) (f : FuncId) (args : List SV) (n T : Nat) (l : List SV) : Prop :=
  ∀ (w : World) (O : Nat → Prop) (vs : Array Value), (∀ b, O b → b < w.heap.size) → vs.size = args.length →
    (∀ (i : Nat) (s : SV) (u : Value), args[i]? = some s → vs[i]? = some u → Rep w O s u) →
    Calls P f vs w fun e w' => ∃ v, e = .returned v ∧ Ext w w' ∧ 0 < n ∧ ∃ (xs : List Value) (vals : Nat → Value), w'.ownsRow w.heap.size T n v l.length xs ∧
      ∀ (i : Nat) (s : SV), l[i]? = some s → Rep w' (fun b => O b ∨ blk v = some b) s (vals i) ∧ (vals i).cells.size = n ∧ ∀ (j : Nat) (u : Value), (vals i).cells[j]? = some u → xs[i * n + j]? = some u

section
variable {Γ : Ctx} {σ : St} {ρ : Nat → Value} {a : Act} {w : World}
theorem owns_zero {w : World} {B e n : Nat} {v : Value} {m : Nat} {xs : List Value} (h : w.ownsRow B e n v m xs) : w.ownsRow 0 e n v m xs :=
  ⟨h.1, h.2.imp id fun ⟨g, cap, cur, h1, _, h3⟩ => ⟨g, cap, cur, h1, Nat.zero_le _, h3⟩⟩
theorem owns_blk {w : World} {B e n : Nat} {v : Value} {m b : Nat} {xs : List Value} (h : w.ownsRow B e n v m xs) (hb : blk v = some b) : B ≤ b ∧ b < w.heap.size := by
  rcases h.2 with ⟨rfl, _⟩ | ⟨g, cap, cur, rfl, h2, h3, _⟩
  · simp [blk] at hb
  · simp [blk] at hb; subst hb
    exact ⟨h2, (Array.getElem?_eq_some_iff.1 h3).1⟩
theorem ok_callo (I : Iv Γ σ ρ a w) {o : Oper} {f : FuncId} {fn : Func} {args : Array Operand} {ts : Array TypeId} {sa : List SV} {n T d : Nat} {l : List SV} {K : St → Prop}
    (ho : o.op = .call { callee := .value (.func f), args := args, argTypes := ts }) (hd : o.dst = some d) (hdn : d < Γ.n) (hf : Γ.P.funcs[f]? = some fn) (hname : (fn.name == "runtime.NumGoroutine") = false) (hb : fn.body.isNone = false)
    (ha : args.toList.map σ.ev = sa.map LV.sv) (hfr : σ.free d = true) (hi : Γ.inn d = none) (hc : PFnO Γ.P f sa n T l) (hk : K ⟨(d, .own d) :: σ.t, ins d (.row n T l) σ.h⟩) : XOk Γ a w o True K := by
  have hrun : (execOp a.eval o).run Γ.P w = .ok (.enter f (args.map a.eval)) w := by
    have hY : a.eval (.func f) = .func (.func f) #[] #[] := rfl
    simp [execOp, ho, resolve, hY, Deferred.ofValue, invoke, run_callFunc hf hname hb]
  have hsz : (args.map a.eval).size = sa.length := by have := congrArg List.length ha; simp at this; simp [this]
  obtain ⟨f1, f2, f3⟩ := free_spec hfr
  unfold XOk oN
  rw [hrun]
  refine (hc w (Own Γ σ.h ρ) (args.map a.eval) (fun b hb => blk_lt I hb) hsz fun i s u hi' hu => ?_).mono ?_
  · have h3 : (args.toList.map σ.ev)[i]? = some (.sv s) := by rw [ha, List.getElem?_map, hi']; rfl
    rw [Array.getElem?_map] at hu
    rw [List.getElem?_map] at h3
    cases hx : args[i]? with
    | none => simp [hx] at hu
    | some x =>
      have hx' : args.toList[i]? = some x := by simpa using hx
      simp only [hx', Option.map_some, Option.some.injEq] at h3
      simp only [hx, Option.map_some, Option.some.injEq] at hu
      subst hu
      have := I.ev x
      rw [h3] at this
      exact this
  · rintro e w' ⟨v, he, hx, hn, xs, vals, hrow, hel⟩
    have I' : Iv Γ ⟨σ.t, ins d (.row n T l) σ.h⟩ (upd ρ d v) a w' := I.heap (fun t lv h => .inl h) (.inr ⟨f1, fun k1 e1 _ => f2 k1 e1⟩) ⟨hx.os, hx.tape, hx.output, hx.size⟩ (fun b hb _ => hx.block b hb)
      (fun b hb => ⟨(owns_blk hrow hb).2, .inl (owns_blk hrow hb).1⟩) (by rw [hi]; intro v h; cases h)
      ⟨hn, xs, vals, by rw [upd_at]; exact owns_zero hrow, fun i s his => by
        obtain ⟨h1, h2, h3⟩ := hel i s his
        refine ⟨Rep.kp h1 (fun b hb hno => ⟨rfl, ?_⟩), h2, h3⟩
        rintro (hO | ⟨k1, e1, hk1, hb1⟩)
        · exact hno (.inl (.inl hO))
        · rw [lookup_ins] at hk1
          by_cases hkk : k1 = d
          · subst hkk; rw [upd_at] at hb1; exact hno (.inr hb1)
          · rw [if_neg hkk] at hk1; rw [upd_ne _ _ hkk] at hb1; exact hno (.inl (.inr ⟨k1, e1, hk1, hb1⟩))⟩
    refine ⟨v, he, _, hk, ⟨upd ρ d v, ?_⟩, fun _ => hx⟩
    rw [hd]
    exact I'.put (d := some d) (lv := .own d) (v := v) (by simpa using hdn) (upd_at _ _ _).symm
theorem Iv.turn (I : Iv Γ σ ρ a w) {k : Nat} {e e0 : Ent} {w' : World} (hk : σ.h.lookup k = some e0) (ho : w'.os = w.os ∧ w'.tape = w.tape ∧ w'.output = w.output ∧ w.heap.size ≤ w'.heap.size)
    (hw : ∀ b, b < w.heap.size → blk (ρ k) ≠ some b → w'.heap[b]? = w.heap[b]?) (he : ERep w' (Own Γ (ins k e σ.h) ρ) ρ k e) : Iv Γ ⟨σ.t, ins k e σ.h⟩ ρ a w' := by
  have h := I.heap (t' := σ.t) (k := k) (e := e) (v' := ρ k) (w' := w') (fun t lv h => .inl h) (.inl rfl) ho (fun b hb hne => hw b hb (hne e0 hk))
    (fun b' hb' => ⟨Nat.lt_of_lt_of_le (I.new k e0 b' hk hb').2 ho.2.2.2, .inr ⟨e0, hk, hb'⟩⟩) (fun v hv => I.inn k v hv) (by rw [upd_self]; exact he)
  rw [upd_self] at h
  exact h
theorem ok_sliceo (I : Iv Γ σ ρ a w) {o : Oper} {x lo : Operand} {t k n T e : Nat} {kk : IntKind} {p : Int} {l : List SV} (ho : o.op = .slice t x (some lo) none none) (he : elOf Γ.P t = some (e, n))
    (hx : σ.ev x = .own k) (hk : σ.h.lookup k = some (.row n T l)) (hl : 0 < l.length) (hlo : σ.ev lo = .sv (.raw (.int kk p))) (h0 : 0 ≤ p) (h1 : p ≤ l.length) :
    ∃ v, LRep w (Own Γ σ.h ρ) ρ (.osub k n p.toNat) v ∧ ∀ w', (execOp a.eval o).run Γ.P w' = .ok (.value v) w' := by
  obtain ⟨hu, hs⟩ := elOf_spec he
  have hX : a.eval x = ρ k := by have := I.ev x; rw [hx] at this; exact this
  obtain ⟨hz, xs, vals, hown, hrep⟩ := I.ent k _ hk
  rcases hown.2 with ⟨_, h⟩ | ⟨g, cap, cur, hv, _, hg, hcap, _⟩
  · omega
  · have hadd : ∀ m, (⟨g, 0, none⟩ : Addr).add m = ⟨g, m, none⟩ := fun m => by rw [addr_add, Nat.zero_add]
    refine ⟨.slice (if cap = p.toNat then some ⟨g, 0, none⟩ else some ⟨g, p.toNat * n, none⟩) (l.length - p.toNat) (cap - p.toNat), ⟨g, l.length, cap, hv, rfl⟩, fun w' => ?_⟩
    have hb := bounds_run (b := true) (n := l.length) (cap := cap) (lo := some lo) (hi := none) (l := p) (h := l.length) I (.inr ⟨lo, kk, rfl, hlo⟩) (.inl ⟨rfl, rfl⟩) h0 h1 (Int.le_refl _) hcap w'
    simp only [Option.map_some, Option.map_none, Int.toNat_natCast] at hb
    simp [execOp, ho, hX, hv, Instr.sliceAt, Instr.slice, run_underlying hu, hb, run_sizeOf hs, hadd]
def cpy {α : Type} (l : List α) (i j : Nat) : List α := l.take i ++ (l.drop j).take (l.length - i) ++ l.drop (i + ((l.drop j).take (l.length - i)).length)
theorem cpy_len {α : Type} (l : List α) (i j : Nat) (hi : i ≤ l.length) : (cpy l i j).length = l.length := by
  unfold cpy; simp only [List.length_append, List.length_take, List.length_drop]; omega
theorem cpy_get {α : Type} (l : List α) (i j : Nat) (hi : i ≤ l.length) (t : Nat) : (cpy l i j)[t]? = if i ≤ t ∧ t < i + ((l.drop j).take (l.length - i)).length then l[j + (t - i)]? else l[t]? := by
  unfold cpy
  generalize hm : ((l.drop j).take (l.length - i)).length = m
  have hm' : m = min (l.length - i) (l.length - j) := by rw [← hm, List.length_take, List.length_drop]
  have hl1 : (l.take i).length = i := by rw [List.length_take]; omega
  have hl2 : (l.take i ++ (l.drop j).take (l.length - i)).length = i + m := by rw [List.length_append, hl1, hm]
  by_cases h1 : t < i
  · rw [if_neg (by omega), List.append_assoc, List.getElem?_append_left (by omega), List.getElem?_take, if_pos h1]
  · by_cases h2 : t < i + m
    · rw [if_pos ⟨by omega, h2⟩, List.getElem?_append_left (by omega), List.getElem?_append_right (by omega), List.getElem?_take, hl1, if_pos (by omega), List.getElem?_drop]
    · rw [if_neg (by omega), List.getElem?_append_right (by omega), List.getElem?_drop, hl2]
      congr 1
      omega
end
section
variable {Γ : Ctx} {ops : Array Oper} {l : List (Oper × Nat)} {t : List (Nat × LV)} {h : List (Nat × Ent)} {K : St → Prop} {c d ty : Nat} {ps : String} {af : Array Edge} {x y : Operand}
theorem q_callo {f : Nat} {args : Array Operand} {ts : Array Nat} {sa : List SV} {n T : Nat} {r : List SV} (hc : PFnO Γ.P f sa n T r) (hcl : Calb Γ.P f)
    (ha : args.toList.map (St.ev ⟨t, h⟩) = sa.map LV.sv) (hf : St.free ⟨t, h⟩ d = true) (hi : Γ.inn d = none) (hk : RunL Γ ops l ⟨(d, .own d) :: t, ins d (.row n T r) h⟩ K) :
    RunL Γ ops ((⟨some d, .call { callee := .value (.func f), args := args, argTypes := ts }, ty, ps, af, none⟩, c + 2) :: l) ⟨t, h⟩ K :=
  let ⟨_, hf', hname, hb⟩ := hcl
  run_x (ext := True) rfl (by omega) (fun _ => trivial) fun _ _ _ I hd => ok_callo I rfl rfl (by simpa [dstOk] using hd) hf' hname hb ha hf hi hc hk
theorem q_slo {S k n T e : Nat} {kk : IntKind} {p : Int} {lo : Operand} {r : List SV} (he : elOf Γ.P S = some (e, n)) (hx : St.ev ⟨t, h⟩ x = .own k) (hh : h.lookup k = some (.row n T r)) (hr : 0 < r.length) (hlo : St.ev ⟨t, h⟩ lo = .sv (.raw (.int kk p))) (h0 : 0 ≤ p) (h1 : p ≤ r.length)
    (hk : RunL Γ ops l ⟨(d, .osub k n p.toNat) :: t, h⟩ K) : RunL Γ ops ((⟨some d, .slice S x (some lo) none none, ty, ps, af, none⟩, c) :: l) ⟨t, h⟩ K := by
  intro hd a w ⟨ρ, I⟩
  simp only [List.all_cons, Bool.and_eq_true] at hd
  obtain ⟨v, hv, hrun⟩ := ok_sliceo (o := ⟨some d, .slice S x (some lo) none none, ty, ps, af, none⟩) I rfl he hx hh hr hlo h0 h1
  have I' : Inv Γ ⟨(d, .osub k n p.toNat) :: t, h⟩ (a.put (some d) v) w := ⟨ρ, I.put (d := some d) (dstOk_spec hd.1) hv⟩
  unfold wpP
  split
  · exact ⟨v, .inl ⟨wanted_none rfl _, fun w' _ => hrun w'⟩, hk hd.2 _ _ I'⟩
  · rw [if_pos (wanted_none rfl _)]
    unfold oN
    rw [hrun w]
    exact ⟨fun _ => Ext.refl w, hk hd.2 _ _ I'⟩
end
end Go.Abs

/- A row of whole numbers of ours, put in order by the library. No condition. -/
namespace Go.Abs
open Go Go.RowKit Go.Eager Go.Sort
set_option linter.unusedVariables false
section
variable {Γ : Ctx} {σ : St} {ρ : Nat → Value} {a : Act} {w : World}
end
section
variable {Γ : Ctx} {ops : Array Oper} {l : List (Oper × Nat)} {t : List (Nat × LV)} {h : List (Nat × Ent)} {K : St → Prop} {c d ty : Nat} {ps : String} {af : Array Edge} {x y : Operand}
end
end Go.Abs

/- A row of pairs of whole numbers of ours, put in order by the library (slices.SortFunc). No condition. -/
namespace Go.Abs
open Go Go.RowKit Go.Eager Go.Sort Go.Proofs
set_option linter.unusedVariables false
def encP (x : Int × Int) : List Value := [.int .i64 x.1, .int .i64 x.2]
@[reducible] def pairSV (x : Int × Int) : SV := .agg [.raw (.int .i64 x.1), .raw (.int .i64 x.2)]
def SortsPairs (P : Program) (f g : FuncId) : Prop :=
  ∀ (blk off cap : Nat) (d : List (Int × Int)) (w : World), HoldsK encP 2 w blk off d.toArray → blk < w.heap.size → d.length < 4611686018427387904 →
    Calls P f #[.slice (some ⟨blk, off, none⟩) d.length cap, .func (.func g) #[] #[]] w fun e w' =>
      e = .returned (.tuple #[]) ∧ ∃ (d' : List (Int × Int)) (n : Nat) (os : Array Obj), d'.Perm d ∧ (d'.Pairwise fun a b => a.1 ≤ b.1) ∧ w' = sortWorldK encP 2 w blk off n d'.toArray os
theorem flat_get (d : List (Int × Int)) (i : Nat) (x : Int × Int) (h : d[i]? = some x) : (flatK encP 2 d.toArray).toList[i * 2]? = some (.int .i64 x.1) ∧ (flatK encP 2 d.toArray).toList[i * 2 + 1]? = some (.int .i64 x.2) := by
  obtain ⟨hi, rfl⟩ := List.getElem?_eq_some_iff.1 h
  have e0 : (i * 2) / 2 = i := by omega
  have e1 : (i * 2 + 1) / 2 = i := by omega
  have m0 : (i * 2) % 2 = 0 := by omega
  have m1 : (i * 2 + 1) % 2 = 1 := by omega
  constructor
  · simp only [flatK, Array.toList_map, Array.toList_range, List.getElem?_map, List.size_toArray]
    rw [List.getElem?_range (by omega)]
    simp [e0, m0, encP, hi]
  · simp only [flatK, Array.toList_map, Array.toList_range, List.getElem?_map, List.size_toArray]
    rw [List.getElem?_range (by omega)]
    simp [e1, m1, encP, hi]
theorem flat_len (d : List (Int × Int)) : (flatK encP 2 d.toArray).toList.length = d.length * 2 := by simp
section
variable {Γ : Ctx} {σ : St} {ρ : Nat → Value} {a : Act} {w : World}
theorem ok_sortp (I : Iv Γ σ ρ a w) {o : Oper} {f g : FuncId} {fn : Func} {x : Operand} {ts : Array TypeId} {T k : Nat} {zs : List (Int × Int)} {K : St → Prop}
    (ho : o.op = .call { callee := .value (.func f), args := #[x, .func g], argTypes := ts }) (hdn : dstOk Γ o = true) (hf : Γ.P.funcs[f]? = some fn) (hname : (fn.name == "runtime.NumGoroutine") = false) (hb : fn.body.isNone = false)
    (hx : σ.ev x = .own k) (hk : σ.h.lookup k = some (.row 2 T (zs.map pairSV))) (h0 : 0 < zs.length) (h1 : zs.length < 4611686018427387904) (hc : SortsPairs Γ.P f g)
    (hK : ∀ ys : List (Int × Int), ys.Perm zs → (ys.Pairwise fun a b => a.1 ≤ b.1) → K ((⟨σ.t, ins k (.row 2 T (ys.map pairSV)) σ.h⟩ : St).put o.dst .dead)) : XOk Γ a w o False K := by
  have hX : a.eval x = ρ k := by have := I.ev x; rw [hx] at this; exact this
  have hrun : (execOp a.eval o).run Γ.P w = .ok (.enter f #[ρ k, .func (.func g) #[] #[]]) w := by
    have hY : a.eval (.func f) = .func (.func f) #[] #[] := rfl
    have hG : a.eval (.func g) = .func (.func g) #[] #[] := rfl
    simp [execOp, ho, resolve, hY, Deferred.ofValue, invoke, run_callFunc hf hname hb, hX, hG]
  obtain ⟨hz, xs, vals, hown, hrep⟩ := I.ent k _ hk
  rw [List.length_map] at hown
  have hxl : xs.length = zs.length * 2 := hown.1
  have hxs : xs = (flatK encP 2 zs.toArray).toList := by
    apply List.ext_getElem?
    intro q
    by_cases hq : q < zs.length * 2
    · obtain ⟨z, hz'⟩ : ∃ z, zs[q / 2]? = some z := ⟨_, List.getElem?_eq_getElem (by omega)⟩
      obtain ⟨r1, r2, r3⟩ := hrep (q / 2) (pairSV z) (by rw [List.getElem?_map, hz']; rfl)
      obtain ⟨f0, f1⟩ := flat_get zs (q / 2) z hz'
      generalize hv : vals (q / 2) = v at r1 r2 r3
      cases r1 with
      | agg l vs hn g1 g2 =>
        have c0 : ∃ u, vs[0]? = some u := ⟨_, Array.getElem?_eq_getElem (by rw [hn]; simp)⟩
        have c1 : ∃ u, vs[1]? = some u := ⟨_, Array.getElem?_eq_getElem (by rw [hn]; simp)⟩
        obtain ⟨u0, c0⟩ := c0
        obtain ⟨u1, c1⟩ := c1
        have d0 := rep_raw' (g2 0 _ u0 rfl c0)
        have d1 := rep_raw' (g2 1 _ u1 rfl c1)
        subst d0 d1
        have t0 := r3 0 _ c0
        have t1 := r3 1 _ c1
        rcases Nat.mod_two_eq_zero_or_one q with hm | hm
        · have e : q = q / 2 * 2 + 0 := by omega
          rw [e, t0]; exact f0.symm
        · have e : q = q / 2 * 2 + 1 := by omega
          rw [e, t1]; exact f1.symm
    · rw [List.getElem?_eq_none (by omega), List.getElem?_eq_none (by rw [flat_len]; omega)]
  rcases hown.2 with ⟨_, h2⟩ | ⟨b, cap, cur, hv, _, hg, hcap, hmax, hcs, htk⟩
  · omega
  · have hbk : blk (ρ k) = some b := by rw [hv]; rfl
    have hlt : b < w.heap.size := (Array.getElem?_eq_some_iff.1 hg).1
    have hH : HoldsK encP 2 w b 0 zs.toArray := by
      intro j hj
      rw [size_flatK, List.size_toArray] at hj
      have hjc : j < cur.size := by rw [hcs]; exact Nat.lt_of_lt_of_le hj (Nat.mul_le_mul_right 2 hcap)
      refine ⟨?_, by simp [World.frozen?, hg]⟩
      have e1 : (cur.toList.take (zs.length * 2))[j]? = (flatK encP 2 zs.toArray).toList[j]? := by rw [htk, hxs]
      rw [List.getElem?_take, if_pos hj, Array.getElem?_toList, Array.getElem?_toList] at e1
      simp only [World.cell?, hg, Nat.zero_add, Option.isSome_none, Bool.false_eq_true, if_false]
      rw [e1, Array.getElem?_eq_getElem (by simp; omega)]
      simp [getElem!_pos, hj]
    unfold XOk oN
    rw [hrun, hv]
    refine (hc b 0 cap zs w hH hlt h1).mono ?_
    rintro e w' ⟨he, ys, n, os, hp, hso, rfl⟩
    refine ⟨_, he, _, hK ys hp hso, ⟨ρ, ?_⟩, fun h => h.elim⟩
    have hyl : ys.length = zs.length := hp.length_eq
    have hgb : (putRowK encP 2 (Sort.ahead w n) b 0 ys.toArray).heap[b]? = some (.cells (putCells id 0 (flatK encP 2 ys.toArray) cur) T (0, 0)) := by
      simp [putRowK, putRow, mapBlock, Sort.ahead, Array.getElem?_modify, hg, onCells]
    have hsz : (putRowK encP 2 (Sort.ahead w n) b 0 ys.toArray).heap.size = w.heap.size := by simp [putRowK, putRow, mapBlock, Sort.ahead]
    have hgr : ∀ c, c < w.heap.size → (sortWorldK encP 2 w b 0 n ys.toArray os).heap[c]? = (putRowK encP 2 (Sort.ahead w n) b 0 ys.toArray).heap[c]? := by
      intro c hc'
      simp only [sortWorldK, grow]
      rw [Array.getElem?_append_left (by rw [hsz]; exact hc')]
    have hoth : ∀ c, c ≠ b → (putRowK encP 2 (Sort.ahead w n) b 0 ys.toArray).heap[c]? = w.heap[c]? := by
      intro c hc'
      simp [putRowK, putRow, mapBlock, Sort.ahead, Array.getElem?_modify, show b ≠ c from fun h => hc' h.symm]
    refine (I.turn (w' := sortWorldK encP 2 w b 0 n ys.toArray os) (e := .row 2 T (ys.map pairSV)) hk ⟨rfl, rfl, rfl, by simp only [sortWorldK]; rw [size_grow, hsz]; omega⟩ (fun c hc' hne => ?_) ?_).put (dstOk_spec hdn) trivial
    · rw [hgr c hc']; exact hoth c fun h => hne (by rw [hbk, h])
    · refine ⟨hz, (flatK encP 2 ys.toArray).toList, fun i => .agg #[.int .i64 (ys.getD i (0, 0)).1, .int .i64 (ys.getD i (0, 0)).2], ?_, fun i s hi => ?_⟩
      · rw [hv, List.length_map, hyl]
        refine ⟨by rw [flat_len, hyl], .inr ⟨b, cap, putCells id 0 (flatK encP 2 ys.toArray) cur, rfl, Nat.zero_le _, ?_, hcap, hmax, by simpa [putCells] using hcs, ?_⟩⟩
        · rw [hgr b hlt]; exact hgb
        · apply List.ext_getElem?
          intro j
          rw [List.getElem?_take, Array.getElem?_toList, Array.getElem?_toList]
          by_cases hj : j < zs.length * 2
          · have hjc : j < cur.size := by rw [hcs]; exact Nat.lt_of_lt_of_le hj (Nat.mul_le_mul_right 2 hcap)
            rw [if_pos hj]
            simp only [putCells, Array.getElem?_mapIdx, Array.getElem?_eq_getElem hjc, Option.map_some]
            rw [if_pos (by simp [hyl]; omega), Array.getElem?_eq_getElem (by simp [hyl]; omega)]
            simp [getElem!_pos, hyl, hj]
          · rw [if_neg hj, Array.getElem?_eq_none (by simp [hyl]; omega)]
      · rw [List.getElem?_map] at hi
        cases hq : ys[i]? with
        | none => simp [hq] at hi
        | some z =>
          simp only [hq, Option.map_some, Option.some.injEq] at hi
          subst hi
          obtain ⟨f0, f1⟩ := flat_get ys i z hq
          simp only [List.getD_eq_getElem?_getD, hq, Option.getD_some]
          refine ⟨Rep.agg _ _ rfl (fun j u hu => ?_) (fun j s u hs hu => ?_), rfl, fun j u hu => ?_⟩
          · match j, hu with
            | 0, hu => simp at hu; subst hu; rfl
            | 1, hu => simp at hu; subst hu; rfl
            | j + 2, hu => simp at hu
          · match j, hs, hu with
            | 0, hs, hu => simp at hs hu; subst hs hu; exact Rep.raw _
            | 1, hs, hu => simp at hs hu; subst hs hu; exact Rep.raw _
            | j + 2, hs, hu => simp at hu
          · match j, hu with
            | 0, hu => simp [Value.cells] at hu; subst hu; exact f0
            | 1, hu => simp [Value.cells] at hu; subst hu; exact f1
            | j + 2, hu => simp [Value.cells] at hu
end
section
variable {Γ : Ctx} {ops : Array Oper} {l : List (Oper × Nat)} {t : List (Nat × LV)} {h : List (Nat × Ent)} {K : St → Prop} {c d ty : Nat} {ps : String} {af : Array Edge} {x y : Operand}
theorem q_sortp {f g k T : Nat} {ts : Array Nat} {zs : List (Int × Int)} (hc : SortsPairs Γ.P f g) (hcl : Calb Γ.P f) (hx : St.ev ⟨t, h⟩ x = .own k) (hh : h.lookup k = some (.row 2 T (zs.map pairSV))) (h0 : 0 < zs.length) (h1 : zs.length < 4611686018427387904)
    (hk : ∀ ys : List (Int × Int), ys.Perm zs → (ys.Pairwise fun a b => a.1 ≤ b.1) → RunL Γ ops l ⟨(d, .dead) :: t, ins k (.row 2 T (ys.map pairSV)) h⟩ K) :
    RunL Γ ops ((⟨some d, .call { callee := .value (.func f), args := #[x, .func g], argTypes := ts }, ty, ps, af, none⟩, 2) :: l) ⟨t, h⟩ K :=
  let ⟨_, hf', hname, hb⟩ := hcl
  run_x (ext := False) rfl (by omega) (fun h => (h rfl).elim) fun a w ρ I hd => ok_sortp I rfl hd hf' hname hb hx hh h0 h1 hc hk
theorem q_bld2 {S : Nat} {p q : Int} (hb : Γ.P.built S [(0, .int .i64 p), (1, .int .i64 q)] = some #[.int .i64 p, .int .i64 q]) (hx : St.ev ⟨t, h⟩ x = .sv (.raw (.int .i64 p))) (hy : St.ev ⟨t, h⟩ y = .sv (.raw (.int .i64 q)))
    (hk : RunL Γ ops l ⟨(d, .sv (pairSV (p, q))) :: t, h⟩ K) : RunL Γ ops ((⟨some d, .build S #[(0, x), (1, y)], ty, ps, af, none⟩, c + 2) :: l) ⟨t, h⟩ K := by
  refine run_x (ext := True) rfl (by omega) (fun _ => trivial) fun a w ρ I hd => ?_
  have run : (execOp a.eval ⟨some d, .build S #[(0, x), (1, y)], ty, ps, af, none⟩).run Γ.P w = .ok (.value (.agg #[.int .i64 p, .int .i64 q])) w := by
    have := run_build (P := Γ.P) w S #[(0, .int .i64 p), (1, .int .i64 q)] _ hb
    simp [execOp, ev_raw I hx, ev_raw I hy, this]
  unfold XOk oN
  rw [run]
  refine ⟨_, hk, ⟨ρ, I.put (d := some d) (by simpa [dstOk] using hd) ?_⟩, fun _ => Ext.refl w⟩
  refine Rep.agg _ _ rfl (fun j u hu => ?_) (fun j s u hs hu => ?_)
  · match j, hu with
    | 0, hu => simp at hu; subst hu; rfl
    | 1, hu => simp at hu; subst hu; rfl
    | j + 2, hu => simp at hu
  · match j, hs, hu with
    | 0, hs, hu => simp at hs hu; subst hs hu; exact Rep.raw _
    | 1, hs, hu => simp at hs hu; subst hs hu; exact Rep.raw _
    | j + 2, hs, hu => simp at hu
end
end Go.Abs

/- A function that hands back a row of its own. No condition. -/
namespace Go.Abs
open Go Go.RowKit Go.Eager
set_option linter.unusedVariables false
def endO (t n T : Nat) (l : List SV) : Exit → St → Prop
  | .normal, σ | .ret, σ => (∃ k, σ.ev (.tmp t) = .own k ∧ σ.h.lookup k = some (.row n T l)) ∨ (σ.ev (.tmp t) = .sv (.raw (.slice none 0 0)) ∧ l = [])
  | _, _ => False
theorem fno_ok_at {P : Program} {f : FuncId} {fn : Func} {c : Code} {args : List SV} {t n T : Nat} {l : List SV} (hz : 0 < n) (hf : P.funcs[f]? = some fn) (hb : fn.body = some c) (hrs : fn.results = #[.tmp t]) (hn : args.length ≤ fn.ntmps)
    (w : World) (O : Nat → Prop) (h : Ok { P := P, w0 := w, O := O, M := fun _ => False, inn := fun _ => none, n := fn.ntmps } c ⟨args.zipIdx.map fun p => (p.2, .sv p.1), []⟩ (endO t n T l)) (vs : Array Value) (hO : ∀ b, O b → b < w.heap.size) (hvs : vs.size = args.length)
    (hrep : ∀ (i : Nat) (s : SV) (u : Value), args[i]? = some s → vs[i]? = some u → Rep w O s u) : Calls P f vs w fun e w' => ∃ v, e = .returned v ∧ Ext w w' ∧ 0 < n ∧ ∃ (xs : List Value) (vals : Nat → Value), w'.ownsRow w.heap.size T n v l.length xs ∧
      ∀ (i : Nat) (s : SV), l[i]? = some s → Rep w' (fun b => O b ∨ blk v = some b) s (vals i) ∧ (vals i).cells.size = n ∧ ∀ (j : Nat) (u : Value), (vals i).cells[j]? = some u → xs[i * n + j]? = some u := by
  refine calls_of_wp hf hb ?_
  let Γ : Ctx := { P := P, w0 := w, O := O, M := fun _ => False, inn := fun _ => none, n := fn.ntmps }
  have hlk : ∀ (l : List SV) (k t : Nat) (lv : LV), ((l.zipIdx k).map fun p => (p.2, LV.sv p.1)).lookup t = some lv → ∃ s, l[t - k]? = some s ∧ lv = .sv s ∧ k ≤ t := by
    intro l
    induction l with
    | nil => intro k t lv h; simp at h
    | cons s l ih =>
      intro k t lv h
      simp only [List.zipIdx_cons, List.map_cons, List.lookup_cons] at h
      by_cases ht : t = k
      · subst ht; simp at h; exact ⟨s, by simp, h.symm, Nat.le_refl _⟩
      · have : (t == k) = false := by simpa using ht
        simp only [this] at h
        obtain ⟨s', h1, h2, h3⟩ := ih (k + 1) t lv h
        refine ⟨s', ?_, h2, by omega⟩
        rw [show t - k = (t - (k + 1)) + 1 by omega]; simpa using h1
  have I : Inv Γ ⟨args.zipIdx.map fun p => (p.2, .sv p.1), []⟩ { tmps := vs ++ Array.replicate (fn.ntmps - vs.size) undef, defers := [] } w := by
    refine ⟨fun _ => undef, ⟨rfl, by simp [Γ]; omega, ⟨rfl, rfl, rfl, Nat.le_refl _, fun _ _ _ => rfl⟩, ?_, ?_, ?_, ?_, fun b hb => ⟨hO b hb, fun h => h⟩, ?_⟩⟩
    · intro t lv ht
      obtain ⟨s, h1, rfl, _⟩ := hlk args 0 t lv ht
      have hlt : t < vs.size := by rw [hvs]; simpa using (List.getElem?_eq_some_iff.1 h1).1
      have hu : vs[t]? = some vs[t] := Array.getElem?_eq_getElem hlt
      have h2 := hrep t s _ (by simpa using h1) hu
      have h3 : (vs ++ Array.replicate (fn.ntmps - vs.size) undef).getD t undef = vs[t] := by
        rw [Array.getD_eq_getD_getElem?, Array.getElem?_append_left hlt, hu]; rfl
      show Rep w _ s _
      rw [h3]
      exact Rep.kp h2 fun b _ hno => ⟨rfl, fun h => by
        rcases h with h | ⟨k, e, hk, _⟩
        · exact hno h
        · simp at hk⟩
    · intro k e hk; simp at hk
    · intro k e b hk; simp at hk
    · intro k k' e e' b hk; simp at hk
    · intro k v hv; simp [Γ] at hv
  refine wp_mono (h _ w I) ?_
  rintro e a' w' ⟨σ', hq, ρ, J⟩
  have hres : (results fn a'.tmps).run P w' = .ok (a'.tmps.getD t undef) w' := by
    unfold results
    rw [hrs]
    simp
  have fin : ((∃ k, σ'.ev (.tmp t) = .own k ∧ σ'.h.lookup k = some (.row n T l)) ∨ (σ'.ev (.tmp t) = .sv (.raw (.slice none 0 0)) ∧ l = [])) →
      a'.defers = [] ∧ ∃ v, (results fn a'.tmps).run P w' = .ok v w' ∧ ∃ v', Ending.returned v = .returned v' ∧ Ext w w' ∧ 0 < n ∧ ∃ (xs : List Value) (vals : Nat → Value), w'.ownsRow w.heap.size T n v' l.length xs ∧
      ∀ (i : Nat) (s : SV), l[i]? = some s → Rep w' (fun b => O b ∨ blk v' = some b) s (vals i) ∧ (vals i).cells.size = n ∧ ∀ (j : Nat) (u : Value), (vals i).cells[j]? = some u → xs[i * n + j]? = some u := by
    have hext : Ext w w' := ⟨J.frm.os, J.frm.tape, J.frm.output, J.frm.size, fun b hb => J.frm.block b hb (fun h => h)⟩
    rintro (⟨k, h1, h2⟩ | ⟨h1, rfl⟩)
    · have hv : a'.tmps.getD t undef = ρ k := by have := J.ev (.tmp t); rw [h1] at this; exact this
      obtain ⟨hz', xs, vals, hown, hel⟩ := J.ent k _ h2
      refine ⟨J.dfr, _, hres, _, rfl, hext, hz, xs, vals, ?_, fun i s hi => ?_⟩
      · rw [hv]
        refine ⟨hown.1, ?_⟩
        rcases hown.2 with h | ⟨g, cap, cur, e1, _, e3⟩
        · exact .inl h
        · refine .inr ⟨g, cap, cur, e1, ?_, e3⟩
          rcases (J.new k _ g h2 (by rw [e1]; rfl)).1 with h | h
          · exact h
          · exact h.elim
      · obtain ⟨r1, r2, r3⟩ := hel i s hi
        refine ⟨r1.kp (fun b hb hno => ⟨rfl, ?_⟩), r2, r3⟩
        rintro (h | h)
        · exact hno (.inl h)
        · rw [hv] at h; exact hno (.inr ⟨k, _, h2, h⟩)
    · have hv : a'.tmps.getD t undef = .slice none 0 0 := ev_raw ⟨J.dfr, J.size, J.frm, J.tmp, J.ent, J.new, J.sep, J.out, J.inn⟩ h1
      refine ⟨J.dfr, _, hres, _, rfl, hext, hz, [], fun _ => undef, ?_, fun i s hi => by simp at hi⟩
      rw [hv]
      exact World.ownsRow_nil w' _ T n
  cases e with
  | normal => exact fin hq
  | ret => exact fin hq
  | _ => exact hq.elim
theorem fno_ok {P : Program} {f : FuncId} {fn : Func} {c : Code} {args : List SV} {t n T m : Nat} {l : List SV} {t0 : List (Nat × LV)} (hz : 0 < n) (hf : P.funcs[f]? = some fn) (hb : fn.body = some c) (hrs : fn.results = #[.tmp t]) (hnt : fn.ntmps = m) (hn : args.length ≤ m)
    (ht : (args.zipIdx.map fun p => (p.2, LV.sv p.1)) = t0) (h : ∀ w0 O, Ok (ctx P w0 O m) c ⟨t0, []⟩ (endO t n T l)) : PFnO P f args n T l := by
  subst hnt ht
  intro w O
  refine fno_ok_at hz hf hb hrs hn w O (h w O)
end Go.Abs

/- Values whose rows stand apart: copies, handed back. No condition. -/
namespace Go.Abs
open Go Go.RowKit Go.Eager
set_option linter.unusedVariables false
inductive Zn (b : Nat) : SV → Prop
  | tr (Z : Nat → Prop) (s : SV) (v : Value) (h : Z b) : Zn b (.tr Z s v)
  | agg (l : List SV) (s : SV) (hs : s ∈ l) (h : Zn b s) : Zn b (.agg l)
  | tup (l : List SV) (s : SV) (hs : s ∈ l) (h : Zn b s) : Zn b (.tup l)
inductive Gd : SV → SV → Prop
  | raw (v : Value) : Gd (.raw v) (.raw v)
  | tr (Z : Nat → Prop) (n : Nat) (l : List SV) (v : Value) : Gd (.tr Z (.sl n l) v) (.sl n l)
  | agg (rs ss : List SV) (hn : rs.length = ss.length) (h : ∀ (i : Nat) (r s : SV), rs[i]? = some r → ss[i]? = some s → Gd r s)
      (hap : ∀ (i j b : Nat) (ri rj : SV), rs[i]? = some ri → rs[j]? = some rj → Zn b ri → Zn b rj → i = j) : Gd (.agg rs) (.agg ss)
theorem zn_raw {b : Nat} {v : Value} (h : Zn b (.raw v)) : False := by cases h
theorem zn_tr {b : Nat} {Z : Nat → Prop} {s : SV} {v : Value} (h : Zn b (.tr Z s v)) : Z b := by cases h; assumption
theorem zn_agg {b : Nat} {l : List SV} (h : Zn b (.agg l)) : ∃ s ∈ l, Zn b s := by cases h with | agg _ s hs h => exact ⟨s, hs, h⟩
theorem zn_tup {b : Nat} {l : List SV} (h : Zn b (.tup l)) : ∃ s ∈ l, Zn b s := by cases h with | tup _ s hs h => exact ⟨s, hs, h⟩
theorem Rep.zn {w : World} {O : Nat → Prop} {b : Nat} {r : SV} (hb : Zn b r) : ∀ {v : Value}, Rep w O r v → b < w.heap.size ∧ ¬ O b := by
  induction hb with
  | tr Z s v h => intro v hr; cases hr with | tr _ _ _ hT hZ => exact hZ b h
  | agg l s hs h ih =>
    intro v hr
    cases hr with
    | agg _ vs hn h1 h2 =>
      obtain ⟨i, hi⟩ := List.getElem?_of_mem hs
      have hlt : i < vs.size := by rw [hn]; exact (List.getElem?_eq_some_iff.1 hi).1
      exact ih (h2 i s _ hi (Array.getElem?_eq_getElem hlt))
  | tup l s hs h ih =>
    intro v hr
    cases hr with
    | tup _ vs hn h2 =>
      obtain ⟨i, hi⟩ := List.getElem?_of_mem hs
      have hlt : i < vs.size := by rw [hn]; exact (List.getElem?_eq_some_iff.1 hi).1
      exact ih (h2 i s _ hi (Array.getElem?_eq_getElem hlt))
theorem Gd.tree {w : World} {O : Nat → Prop} {r s : SV} (g : Gd r s) : ∀ {v : Value}, Rep w O r v → Tree w (fun b => Zn b r) s v := by
  induction g with
  | raw v => intro v' h; cases h; exact .raw _ _
  | tr Z n l v => intro v h; cases h with | tr _ _ _ hT hZ => exact hT.mono fun b hb => .tr Z _ _ hb
  | agg rs ss hn h hap ih =>
    intro v hr
    cases hr with
    | agg _ vs hn' h1 h2 =>
      refine .agg _ ss vs (fun i d => ∃ r, rs[i]? = some r ∧ Zn d r) (by rw [hn', hn]) h1 (fun i s u hs hu => ?_) ?_ ?_
      · have hlt : i < rs.length := by rw [hn]; exact (List.getElem?_eq_some_iff.1 hs).1
        exact (ih i rs[i] s (List.getElem?_eq_getElem hlt) hs (h2 i rs[i] u (List.getElem?_eq_getElem hlt) hu)).mono fun b hb => ⟨_, List.getElem?_eq_getElem hlt, hb⟩
      · rintro i d ⟨r, hr, hd⟩
        exact .agg rs r (List.mem_of_getElem? hr) hd
      · rintro i j d ⟨r, hr, hd⟩ ⟨r', hr', hd'⟩
        exact hap i j d r r' hr hr' hd hd'
def PFnR (P : Program) (f : FuncId) (args : List SV) (R : SV → Prop) : Prop :=
  ∀ (w : World) (O : Nat → Prop) (vs : Array Value), (∀ b, O b → b < w.heap.size) → vs.size = args.length →
    (∀ (i : Nat) (s : SV) (u : Value), args[i]? = some s → vs[i]? = some u → Rep w O s u) →
    Calls P f vs w fun e w' => ∃ v r, e = .returned v ∧ Ext w w' ∧ R r ∧ (∀ b, Zn b r → w.heap.size ≤ b) ∧ Rep w' O r v
@[reducible] def PFnT (P : Program) (f : FuncId) (args : List SV) (s : SV) : Prop := PFnR P f args fun r => Gd r s
def Apart (t : List (Nat × LV)) (h : List (Nat × Ent)) (r : SV) : Prop :=
  (∀ k s b, t.lookup k = some (.sv s) → Zn b s → ¬ Zn b r) ∧ ∀ k n T l s b, h.lookup k = some (.row n T l) → s ∈ l → Zn b s → ¬ Zn b r
section
variable {Γ : Ctx} {σ : St} {ρ : Nat → Value} {a : Act} {w : World}
theorem apart_of (I : Iv Γ σ ρ a w) {r : SV} (hr : ∀ b, Zn b r → w.heap.size ≤ b) : Apart σ.t σ.h r := by
  refine ⟨fun k s b hk hb hb' => ?_, fun k n T l s b hk hs hb hb' => ?_⟩
  · have := (Rep.zn hb (I.tmp k _ hk)).1
    have := hr b hb'
    omega
  · obtain ⟨_, xs, vals, _, hel⟩ := I.ent k _ hk
    obtain ⟨i, hi⟩ := List.getElem?_of_mem hs
    have := (Rep.zn hb (hel i s hi).1).1
    have := hr b hb'
    omega
theorem ok_callr (I : Iv Γ σ ρ a w) {o : Oper} {f : FuncId} {fn : Func} {args : Array Operand} {ts : Array TypeId} {sa : List SV} {R : SV → Prop} {K : St → Prop}
    (ho : o.op = .call { callee := .value (.func f), args := args, argTypes := ts }) (hdn : dstOk Γ o = true) (hf : Γ.P.funcs[f]? = some fn) (hname : (fn.name == "runtime.NumGoroutine") = false) (hb : fn.body.isNone = false)
    (ha : args.toList.map σ.ev = sa.map LV.sv) (hc : PFnR Γ.P f sa R) (hk : ∀ r, R r → (∀ b, Zn b r → Γ.w0.heap.size ≤ b) → Apart σ.t σ.h r → K (σ.put o.dst (.sv r))) : XOk Γ a w o True K := by
  have hrun : (execOp a.eval o).run Γ.P w = .ok (.enter f (args.map a.eval)) w := by
    have hY : a.eval (.func f) = .func (.func f) #[] #[] := rfl
    simp [execOp, ho, resolve, hY, Deferred.ofValue, invoke, run_callFunc hf hname hb]
  have hsz : (args.map a.eval).size = sa.length := by have := congrArg List.length ha; simp at this; simp [this]
  unfold XOk oN
  rw [hrun]
  refine (hc w (Own Γ σ.h ρ) (args.map a.eval) (fun b hb => blk_lt I hb) hsz fun i s u hi' hu => ?_).mono ?_
  · have h3 : (args.toList.map σ.ev)[i]? = some (.sv s) := by rw [ha, List.getElem?_map, hi']; rfl
    rw [Array.getElem?_map] at hu
    rw [List.getElem?_map] at h3
    cases hx : args[i]? with
    | none => simp [hx] at hu
    | some x =>
      have hx' : args.toList[i]? = some x := by simpa using hx
      simp only [hx', Option.map_some, Option.some.injEq] at h3
      simp only [hx, Option.map_some, Option.some.injEq] at hu
      subst hu
      have := I.ev x
      rw [h3] at this
      exact this
  · rintro e w' ⟨v, r, he, hx, hR, hn, hv⟩
    exact ⟨v, he, _, hk r hR (fun b hb => Nat.le_trans I.frm.size (hn b hb)) (apart_of I hn), ⟨ρ, (I.ext hx).put (dstOk_spec hdn) hv⟩, fun _ => hx⟩
theorem row_tree (I : Iv Γ σ ρ a w) {k n T : Nat} {rs ss : List SV} (hk : σ.h.lookup k = some (.row n T rs)) (hl : rs.length = ss.length) (hg : ∀ (i : Nat) (r s : SV), rs[i]? = some r → ss[i]? = some s → Gd r s)
    (hap : ∀ (i j b : Nat) (ri rj : SV), rs[i]? = some ri → rs[j]? = some rj → Zn b ri → Zn b rj → i = j) :
    Tree w (fun b => blk (ρ k) = some b ∨ ∃ r ∈ rs, Zn b r) (.sl n ss) (ρ k) := by
  obtain ⟨hz, xs, vals, hown, hel⟩ := I.ent k _ hk
  rcases hown.2 with ⟨h1, h2⟩ | ⟨b, cap, cur, h1, _, hgb, hcap, hmax, hcs, htk⟩
  · have : ss = [] := List.eq_nil_of_length_eq_zero (by omega)
    rw [this, h1]; exact .nil _ _ _ _
  · have hbk : blk (ρ k) = some b := by rw [h1]; rfl
    by_cases h0 : rs.length = 0
    · have : ss = [] := List.eq_nil_of_length_eq_zero (by omega)
      rw [this, h1, h0]; exact .nil _ _ _ _
    · have hOb : Own Γ σ.h ρ b := .inr ⟨k, _, hk, hbk⟩
      rw [h1, hl]
      refine .sl _ n T ss b cap cur vals (fun i d => ∃ r, rs[i]? = some r ∧ Zn d r) (.inl rfl) (by omega) (by omega) hz hmax hcs hgb (fun i s hs => ?_) (fun i hi => ?_) (fun i hi j u hu => ?_) ?_ ?_
      · have hlt : i < rs.length := by rw [hl]; exact (List.getElem?_eq_some_iff.1 hs).1
        exact ((hg i rs[i] s (List.getElem?_eq_getElem hlt) hs).tree (hel i rs[i] (List.getElem?_eq_getElem hlt)).1).mono fun d hd => ⟨_, List.getElem?_eq_getElem hlt, hd⟩
      · exact (hel i rs[i] (List.getElem?_eq_getElem (by omega))).2.1
      · have hlt : i < rs.length := by omega
        have h3 := (hel i rs[i] (List.getElem?_eq_getElem hlt)).2.2 j u hu
        have hjn : j < n := by
          have h4 := (hel i rs[i] (List.getElem?_eq_getElem hlt)).2.1
          have := (Array.getElem?_eq_some_iff.1 hu).1
          omega
        have hlt2 : i * n + j < rs.length * n := by
          have : (i + 1) * n ≤ rs.length * n := Nat.mul_le_mul_right n hlt
          rw [Nat.add_mul, Nat.one_mul] at this
          omega
        rw [← htk, List.getElem?_take, if_pos hlt2, Array.getElem?_toList] at h3
        exact h3
      · rintro i d ⟨r, hr, hd⟩
        have hmem := List.mem_of_getElem? hr
        refine ⟨.inr ⟨r, hmem, hd⟩, fun e => ?_⟩
        exact (Rep.zn hd (hel i r hr).1).2 (e ▸ hOb)
      · rintro i j d ⟨r, hr, hd⟩ ⟨r', hr', hd'⟩
        exact hap i j d r r' hr hr' hd hd'
end
structure Chg (Z : Nat → Prop) (w w' : World) : Prop where
  os : w'.os = w.os
  tape : w'.tape = w.tape
  output : w'.output = w.output
  size : w.heap.size ≤ w'.heap.size
  block : ∀ b, b < w.heap.size → ¬ Z b → w'.heap[b]? = w.heap[b]?
def MarkC (P : Program) (f : FuncId) (s : SV) (k : Int) (R : Int → SV → Prop) : Prop :=
  ∀ (w : World) (Z : Nat → Prop) (v : Value), Tree w Z s v → (∀ b, Z b → b < w.heap.size) →
    Calls P f #[v, .int .i64 k] w fun e w' => ∃ k' s', e = .returned (.int .i64 k') ∧ R k' s' ∧ Chg Z w w' ∧ Tree w' Z s' v
inductive Mk (Z : Nat → Prop) (s s' : SV) (v : Value) : SV → SV → Prop
  | raw (u : Value) : Mk Z s s' v (.raw u) (.raw u)
  | same : Mk Z s s' v (.tr Z s v) (.tr Z s' v)
  | other (Z2 : Nat → Prop) (s2 : SV) (v2 : Value) (h : ∀ b, Z2 b → ¬ Z b) : Mk Z s s' v (.tr Z2 s2 v2) (.tr Z2 s2 v2)
  | agg (l l' : List SV) (hn : l'.length = l.length) (h : ∀ (i : Nat) (x x' : SV), l[i]? = some x → l'[i]? = some x' → Mk Z s s' v x x') : Mk Z s s' v (.agg l) (.agg l')
inductive MkL (Z : Nat → Prop) (s s' : SV) (v : Value) : LV → LV → Prop
  | sv {r r' : SV} (h : Mk Z s s' v r r') : MkL Z s s' v (.sv r) (.sv r')
  | av {Z2 : Nat → Prop} {s2 : SV} (h : ∀ b, Z b → Z2 b) : MkL Z s s' v (.av Z2 s2) (.av Z2 s2)
  | own {k : Nat} : MkL Z s s' v (.own k) (.own k)
  | ptr {k j : Nat} : MkL Z s s' v (.ptr k j) (.ptr k j)
  | dead {lv : LV} : MkL Z s s' v lv .dead
inductive MkE (Z : Nat → Prop) (s s' : SV) (v : Value) : Ent → Ent → Prop
  | box {c c' : List LV} (hn : c'.length = c.length) (h : ∀ (i : Nat) (x x' : LV), c[i]? = some x → c'[i]? = some x' → MkL Z s s' v x x') : MkE Z s s' v (.box c) (.box c')
  | row {n T : Nat} {l l' : List SV} (hn : l'.length = l.length) (h : ∀ (i : Nat) (x x' : SV), l[i]? = some x → l'[i]? = some x' → Mk Z s s' v x x') : MkE Z s s' v (.row n T l) (.row n T l')
def MkT (Z : Nat → Prop) (s s' : SV) (v : Value) : List (Nat × LV) → List (Nat × LV) → Prop
  | [], [] => True
  | (k, lv) :: t, (k', lv') :: t' => k = k' ∧ MkL Z s s' v lv lv' ∧ MkT Z s s' v t t'
  | _, _ => False
def MkH (Z : Nat → Prop) (s s' : SV) (v : Value) : List (Nat × Ent) → List (Nat × Ent) → Prop
  | [], [] => True
  | (k, e) :: t, (k', e') :: t' => k = k' ∧ MkE Z s s' v e e' ∧ MkH Z s s' v t t'
  | _, _ => False
theorem mkT_lookup {Z : Nat → Prop} {s s' : SV} {v : Value} {k : Nat} {lv' : LV} : ∀ {t t' : List (Nat × LV)}, MkT Z s s' v t t' → t'.lookup k = some lv' → ∃ lv, t.lookup k = some lv ∧ MkL Z s s' v lv lv'
  | [], [], _, h => by simp at h
  | [], _ :: _, h, _ => h.elim
  | _ :: _, [], h, _ => h.elim
  | (a, lv) :: t, (a', x) :: t', ⟨he, hm, ht⟩, h => by
    subst he
    rw [List.lookup_cons] at h ⊢
    cases hk : (k == a) with
    | true => simp only [hk, Option.some.injEq] at h ⊢; subst h; exact ⟨lv, rfl, hm⟩
    | false => simp only [hk] at h ⊢; exact mkT_lookup ht h
theorem mkH_lookup {Z : Nat → Prop} {s s' : SV} {v : Value} {k : Nat} {e' : Ent} : ∀ {t t' : List (Nat × Ent)}, MkH Z s s' v t t' → t'.lookup k = some e' → ∃ e, t.lookup k = some e ∧ MkE Z s s' v e e'
  | [], [], _, h => by simp at h
  | [], _ :: _, h, _ => h.elim
  | _ :: _, [], h, _ => h.elim
  | (a, lv) :: t, (a', x) :: t', ⟨he, hm, ht⟩, h => by
    subst he
    rw [List.lookup_cons] at h ⊢
    cases hk : (k == a) with
    | true => simp only [hk, Option.some.injEq] at h ⊢; subst h; exact ⟨lv, rfl, hm⟩
    | false => simp only [hk] at h ⊢; exact mkH_lookup ht h
theorem Mk.rep {Z : Nat → Prop} {s s' : SV} {v : Value} {w w' : World} {O O' : Nat → Prop} (hc : Chg Z w w') (hT : Tree w' Z s' v) (hZ : ∀ b, Z b → b < w.heap.size ∧ ¬ O b) (hO : ∀ b, b < w.heap.size → ¬ O b → ¬ O' b) {r r' : SV} (m : Mk Z s s' v r r') : ∀ {u : Value}, Rep w O r u → Rep w' O' r' u := by
  induction m with
  | raw x => intro u h; cases h; exact .raw _
  | same => intro u h; cases h with | tr _ _ _ h1 h2 => exact .tr Z s' v hT fun b hb => ⟨Nat.lt_of_lt_of_le (hZ b hb).1 hc.size, hO b (hZ b hb).1 (hZ b hb).2⟩
  | other Z2 s2 v2 hd =>
    intro u h
    cases h with
    | tr _ _ _ h1 h2 =>
      exact .tr Z2 s2 _ (h1.keep fun b hb => hc.block b (h2 b hb).1 (hd b hb)) fun b hb => ⟨Nat.lt_of_lt_of_le (h2 b hb).1 hc.size, hO b (h2 b hb).1 (h2 b hb).2⟩
  | agg l l' hn _ ih =>
    intro u h
    cases h with
    | agg _ vs hn' h1 h2 =>
      refine .agg l' vs (by rw [hn', hn]) h1 fun i x' y hx' hy => ?_
      have hlt : i < l.length := by rw [← hn]; exact (List.getElem?_eq_some_iff.1 hx').1
      exact ih i l[i] x' (List.getElem?_eq_getElem hlt) hx' (h2 i l[i] y (List.getElem?_eq_getElem hlt) hy)
section
variable {Γ : Ctx} {σ : St} {ρ : Nat → Value} {a : Act} {w : World}
theorem Iv.mark (I : Iv Γ σ ρ a w) {Z : Nat → Prop} {s s' : SV} {v : Value} {w' : World} {t' : List (Nat × LV)} {h' : List (Nat × Ent)} (hc : Chg Z w w') (hT : Tree w' Z s' v) (hZ : ∀ b, Z b → b < w.heap.size ∧ ¬ Own Γ σ.h ρ b)
    (hM : ∀ b, Z b → Γ.w0.heap.size ≤ b ∨ Γ.M b) (ht : MkT Z s s' v σ.t t') (hh : MkH Z s s' v σ.h h') : Iv Γ ⟨t', h'⟩ ρ a w' := by
  have hO : ∀ b, ¬ Own Γ σ.h ρ b → ¬ Own Γ h' ρ b := by
    rintro b hno (hb | ⟨k, e, hk, hb⟩)
    · exact hno (.inl hb)
    · obtain ⟨e0, hk0, _⟩ := mkH_lookup hh hk
      exact hno (.inr ⟨k, e0, hk0, hb⟩)
  have hL : ∀ {lv lv' : LV} {u : Value}, MkL Z s s' v lv lv' → LRep w (Own Γ σ.h ρ) ρ lv u → LRep w' (Own Γ h' ρ) ρ lv' u := by
    intro lv lv' u hm hr
    cases hm with
    | sv m => exact m.rep hc hT hZ (fun b _ h => hO b h) hr
    | @av Z2 s2 hs =>
      refine Rep.kp (O := fun b => Own Γ σ.h ρ b ∨ Z2 b) (O' := fun b => Own Γ h' ρ b ∨ Z2 b) hr fun b hb hno => ⟨hc.block b hb fun h => hno (.inr (hs b h)), ?_⟩
      exact fun h => h.elim (hO b fun h => hno (.inl h)) fun h => hno (.inr h)
    | own => exact hr
    | ptr => exact hr
    | dead => exact trivial
  have hblk : ∀ k e b, σ.h.lookup k = some e → blk (ρ k) = some b → w'.heap[b]? = w.heap[b]? := by
    intro k e b hk hb
    exact hc.block b (I.new k e b hk hb).2 fun h => (hZ b h).2 (.inr ⟨k, e, hk, hb⟩)
  refine ⟨I.dfr, I.size, ⟨hc.os.trans I.frm.os, hc.tape.trans I.frm.tape, hc.output.trans I.frm.output, Nat.le_trans I.frm.size hc.size, fun b hb hm => ?_⟩, ?_, ?_, ?_, ?_, I.out, I.inn⟩
  · refine (hc.block b (Nat.lt_of_lt_of_le hb I.frm.size) fun h => ?_).trans (I.frm.block b hb hm)
    rcases hM b h with h1 | h1
    · omega
    · exact hm h1
  · intro k lv' hk
    obtain ⟨lv, hk0, hm⟩ := mkT_lookup ht hk
    exact hL hm (I.tmp k lv hk0)
  · intro k e' hk
    obtain ⟨e, hk0, hm⟩ := mkH_lookup hh hk
    have he := I.ent k e hk0
    cases hm with
    | box hn hcs =>
      rename_i c c'
      obtain ⟨b, T, cur, h1, h2, h3, h4⟩ := he
      refine ⟨b, T, cur, h1, (hblk k _ b hk0 (by rw [h1]; rfl)).trans h2, by rw [h3, hn], fun j lv' u hj hu => ?_⟩
      have hlt : j < c.length := by rw [← hn]; exact (List.getElem?_eq_some_iff.1 hj).1
      exact ⟨hL (hcs j c[j] lv' (List.getElem?_eq_getElem hlt) hj) (h4 j c[j] u (List.getElem?_eq_getElem hlt) hu).1, (h4 j c[j] u (List.getElem?_eq_getElem hlt) hu).2⟩
    | row hn hcs =>
      rename_i n T l l'
      obtain ⟨hz, xs, vals, hown, hel⟩ := he
      refine ⟨hz, xs, vals, ?_, fun i x' hi => ?_⟩
      · rw [hn]
        refine ⟨hown.1, ?_⟩
        rcases hown.2 with h | ⟨g, cap, cur, e1, e2, e3, rest⟩
        · exact .inl h
        · exact .inr ⟨g, cap, cur, e1, e2, (hblk k _ g hk0 (by rw [e1]; rfl)).trans e3, rest⟩
      · have hlt : i < l.length := by rw [← hn]; exact (List.getElem?_eq_some_iff.1 hi).1
        obtain ⟨r1, r2, r3⟩ := hel i l[i] (List.getElem?_eq_getElem hlt)
        exact ⟨(hcs i l[i] x' (List.getElem?_eq_getElem hlt) hi).rep hc hT hZ (fun b _ h => hO b h) r1, r2, r3⟩
  · intro k e' b hk hb
    obtain ⟨e, hk0, _⟩ := mkH_lookup hh hk
    exact ⟨(I.new k e b hk0 hb).1, Nat.lt_of_lt_of_le (I.new k e b hk0 hb).2 hc.size⟩
  · intro k k' e e' b hk hk' hb hb'
    obtain ⟨e0, hk0, _⟩ := mkH_lookup hh hk
    obtain ⟨e1, hk1, _⟩ := mkH_lookup hh hk'
    exact I.sep k k' e0 e1 b hk0 hk1 hb hb'
end
section
variable {Γ : Ctx} {ops : Array Oper} {l : List (Oper × Nat)} {t : List (Nat × LV)} {h : List (Nat × Ent)} {K : St → Prop} {c d ty : Nat} {ps : String} {af : Array Edge} {x y : Operand}
theorem q_callr {f : Nat} {args : Array Operand} {ts : Array Nat} {sa : List SV} {R : SV → Prop} (hc : PFnR Γ.P f sa R) (hcl : Calb Γ.P f) (ha : args.toList.map (St.ev ⟨t, h⟩) = sa.map LV.sv)
    (hk : ∀ r, R r → (∀ b, Zn b r → Γ.w0.heap.size ≤ b) → Apart t h r → RunL Γ ops l ⟨(d, .sv r) :: t, h⟩ K) :
    RunL Γ ops ((⟨some d, .call { callee := .value (.func f), args := args, argTypes := ts }, ty, ps, af, none⟩, c + 2) :: l) ⟨t, h⟩ K :=
  let ⟨_, hf', hname, hb⟩ := hcl
  run_x (ext := True) rfl (by omega) (fun _ => trivial) fun _ _ _ I hd => ok_callr I rfl hd hf' hname hb ha hc hk
theorem q_mark {f : Nat} {ts : Array Nat} {Z : Nat → Prop} {s : SV} {v : Value} {k : Int} {R : Int → SV → Prop} (hc : MarkC Γ.P f s k R) (hcl : Calb Γ.P f) (hx : St.ev ⟨t, h⟩ x = .sv (.tr Z s v)) (hy : St.ev ⟨t, h⟩ y = .sv (.raw (.int .i64 k)))
    (hM : ∀ b, Z b → Γ.w0.heap.size ≤ b ∨ Γ.M b) (t' : SV → List (Nat × LV)) (h' : SV → List (Nat × Ent)) (ht : ∀ s', MkT Z s s' v t (t' s')) (hh : ∀ s', MkH Z s s' v h (h' s'))
    (hk : ∀ k' s', R k' s' → RunL Γ ops l ⟨(d, .sv (.raw (.int .i64 k'))) :: t' s', h' s'⟩ K) :
    RunL Γ ops ((⟨some d, .call { callee := .value (.func f), args := #[x, y], argTypes := ts }, ty, ps, af, none⟩, 2) :: l) ⟨t, h⟩ K := by
  obtain ⟨fn, hf', hname, hb⟩ := hcl
  refine run_x (ext := False) rfl (by omega) (fun h => (h rfl).elim) fun a w ρ I hd => ?_
  have hX := I.ev x
  rw [hx] at hX
  have hY : a.eval y = .int .i64 k := ev_raw I hy
  have hrun : (execOp a.eval ⟨some d, .call { callee := .value (.func f), args := #[x, y], argTypes := ts }, ty, ps, af, none⟩).run Γ.P w = .ok (.enter f #[a.eval x, .int .i64 k]) w := by
    have hF : a.eval (.func f) = .func (.func f) #[] #[] := rfl
    simp [execOp, resolve, hF, Deferred.ofValue, invoke, run_callFunc hf' hname hb, hY]
  unfold XOk oN
  rw [hrun]
  generalize a.eval x = u at hX hrun
  cases hX with
  | tr _ _ _ hT hZ =>
    refine (hc w Z v hT fun b hb => (hZ b hb).1).mono ?_
    rintro e w' ⟨k', s', he, hR, hC, hT'⟩
    exact ⟨_, he, _, hk k' s' hR, ⟨ρ, (I.mark hC hT' hZ hM (ht s') (hh s')).put (d := some d) (by simpa [dstOk] using hd) (Rep.raw _)⟩, fun h => h.elim⟩
end
end Go.Abs

/- Functions that hand back copies, functions that write into trees; calls whose arguments are trees. No condition. -/
namespace Go.Abs
open Go Go.RowKit Go.Eager
set_option linter.unusedVariables false
theorem Gd.rep {w : World} {O : Nat → Prop} {r s : SV} (g : Gd r s) {v : Value} (h : Rep w O r v) : Rep w O s v := (g.tree h).rep fun b hb => (Rep.zn hb h).2
theorem fnp_ok_at {P : Program} {f : FuncId} {fn : Func} {c : Code} {rs : List ResultVar} {args : List SV} {R : SV → Prop} (hf : P.funcs[f]? = some fn) (hb : fn.body = some c) (hrs : fn.results.toList = rs) (hn : args.length ≤ fn.ntmps)
    (w : World) (O : Nat → Prop) (h : Ok { P := P, w0 := w, O := O, M := fun _ => False, inn := fun _ => none, n := fn.ntmps } c ⟨args.zipIdx.map fun p => (p.2, .sv p.1), []⟩ (endR P rs fun l => R (tupSV l))) (vs : Array Value) (hO : ∀ b, O b → b < w.heap.size) (hvs : vs.size = args.length)
    (hrep : ∀ (i : Nat) (s : SV) (u : Value), args[i]? = some s → vs[i]? = some u → Rep w O s u) : Calls P f vs w fun e w' => ∃ v r, e = .returned v ∧ Ext w w' ∧ R r ∧ Rep w' O r v := by
  refine calls_of_wp hf hb ?_
  let Γ : Ctx := { P := P, w0 := w, O := O, M := fun _ => False, inn := fun _ => none, n := fn.ntmps }
  have hlk : ∀ (l : List SV) (k t : Nat) (lv : LV), ((l.zipIdx k).map fun p => (p.2, LV.sv p.1)).lookup t = some lv → ∃ s, l[t - k]? = some s ∧ lv = .sv s ∧ k ≤ t := by
    intro l
    induction l with
    | nil => intro k t lv h; simp at h
    | cons s l ih =>
      intro k t lv h
      simp only [List.zipIdx_cons, List.map_cons, List.lookup_cons] at h
      by_cases ht : t = k
      · subst ht; simp at h; exact ⟨s, by simp, h.symm, Nat.le_refl _⟩
      · have : (t == k) = false := by simpa using ht
        simp only [this] at h
        obtain ⟨s', h1, h2, h3⟩ := ih (k + 1) t lv h
        refine ⟨s', ?_, h2, by omega⟩
        rw [show t - k = (t - (k + 1)) + 1 by omega]; simpa using h1
  have I : Inv Γ ⟨args.zipIdx.map fun p => (p.2, .sv p.1), []⟩ { tmps := vs ++ Array.replicate (fn.ntmps - vs.size) undef, defers := [] } w := by
    refine ⟨fun _ => undef, ⟨rfl, by simp [Γ]; omega, ⟨rfl, rfl, rfl, Nat.le_refl _, fun _ _ _ => rfl⟩, ?_, ?_, ?_, ?_, fun b hb => ⟨hO b hb, fun h => h⟩, ?_⟩⟩
    · intro t lv ht
      obtain ⟨s, h1, rfl, _⟩ := hlk args 0 t lv ht
      have hlt : t < vs.size := by rw [hvs]; simpa using (List.getElem?_eq_some_iff.1 h1).1
      have hu : vs[t]? = some vs[t] := Array.getElem?_eq_getElem hlt
      have h2 := hrep t s _ (by simpa using h1) hu
      have h3 : (vs ++ Array.replicate (fn.ntmps - vs.size) undef).getD t undef = vs[t] := by
        rw [Array.getD_eq_getD_getElem?, Array.getElem?_append_left hlt, hu]; rfl
      show Rep w _ s _
      rw [h3]
      exact Rep.kp h2 fun b _ hno => ⟨rfl, fun h => by
        rcases h with h | ⟨k, e, hk, _⟩
        · exact hno h
        · simp at hk⟩
    · intro k e hk; simp at hk
    · intro k e b hk; simp at hk
    · intro k k' e e' b hk; simp at hk
    · intro k v hv; simp [Γ] at hv
  refine wp_mono (h _ w I) ?_
  rintro e a' w' ⟨σ', hq, ρ, J⟩
  have fin : (∃ l, ResL P σ' rs l ∧ R (tupSV l)) → a'.defers = [] ∧ ∃ v, (results fn a'.tmps).run P w' = .ok v w' ∧ ∃ v' r, Ending.returned v = .returned v' ∧ Ext w w' ∧ R r ∧ Rep w' O r v' := by
    rintro ⟨l, hl, hR⟩
    obtain ⟨vs', hv1, hv2, hv3⟩ := run_resl J hl fn hrs
    exact ⟨J.dfr, _, hv2, _, _, rfl, ⟨J.frm.os, J.frm.tape, J.frm.output, J.frm.size, fun b hb => J.frm.block b hb (fun h => h)⟩, hR, tup_rep hv1 hv3⟩
  cases e with
  | normal => exact fin hq
  | ret => exact fin hq
  | _ => exact hq.elim
theorem fnp_ok {P : Program} {f : FuncId} {fn : Func} {c : Code} {rs : List ResultVar} {args : List SV} {R : SV → Prop} {n : Nat} {t0 : List (Nat × LV)} (hf : P.funcs[f]? = some fn) (hb : fn.body = some c) (hrs : fn.results.toList = rs) (hnt : fn.ntmps = n) (hn : args.length ≤ n)
    (ht : (args.zipIdx.map fun p => (p.2, LV.sv p.1)) = t0) (h : ∀ w0 O, Ok (ctx P w0 O n) c ⟨t0, []⟩ (endR P rs fun l => R (tupSV l) ∧ ∀ b, Zn b (tupSV l) → w0.heap.size ≤ b)) : PFnR P f args R := by
  subst hnt ht
  intro w O vs hO hsz hr
  refine (fnp_ok_at (R := fun r => R r ∧ ∀ b, Zn b r → w.heap.size ≤ b) hf hb hrs hn w O (h w O) vs hO hsz hr).mono ?_
  rintro e w' ⟨v, r, h1, h2, ⟨h3, h4⟩, h5⟩
  exact ⟨v, r, h1, h2, h3, h4, h5⟩
def tdT (k : Nat) (r : SV) (t : List (Nat × LV)) : List (Nat × LV) := t.map fun p => (p.1, match p.2 with | .own k' => if k' = k then .sv r else .own k' | lv => lv)
theorem tdT_lookup {k t : Nat} {r : SV} {lv : LV} : ∀ {ts : List (Nat × LV)}, (tdT k r ts).lookup t = some lv → ts.lookup t = some lv ∨ (ts.lookup t = some (.own k) ∧ lv = .sv r)
  | [], h => by simp [tdT] at h
  | (t', lv') :: ts, h => by
    simp only [tdT, List.map_cons, List.lookup_cons] at h ⊢
    by_cases ht : t = t'
    · subst ht
      simp only [BEq.rfl, Option.some.injEq] at h ⊢
      subst h
      split
      · rename_i k'
        by_cases hk : k' = k
        · subst hk; simp
        · simp [hk]
      · exact .inl rfl
    · have : (t == t') = false := by simpa using ht
      simp only [this] at h ⊢
      exact tdT_lookup h
theorem ok_treed {Γ : Ctx} {code : Code} {t : List (Nat × LV)} {h : List (Nat × Ent)} {Q : Exit → St → Prop} {k n T : Nat} {rs ss : List SV} (hk : h.lookup k = some (.row n T rs)) (hl : rs.length = ss.length) (hg : ∀ (i : Nat) (r s : SV), rs[i]? = some r → ss[i]? = some s → Gd r s)
    (hap : ∀ (i j b : Nat) (ri rj : SV), rs[i]? = some ri → rs[j]? = some rj → Zn b ri → Zn b rj → i = j) (hzn : ∀ r ∈ rs, ∀ b, Zn b r → Γ.w0.heap.size ≤ b ∨ Γ.M b)
    (hok : ∀ (Z : Nat → Prop) (v : Value), (∀ b, Z b → Γ.w0.heap.size ≤ b ∨ Γ.M b) → Ok Γ code ⟨tdT k (.tr Z (.sl n ss) v) t, dropH k h⟩ Q) : Ok Γ code ⟨t, h⟩ Q := by
  rintro a w ⟨ρ, I⟩
  have hT := row_tree I hk hl hg hap
  have hZb : ∀ b, (blk (ρ k) = some b ∨ ∃ r ∈ rs, Zn b r) → (Γ.w0.heap.size ≤ b ∨ Γ.M b) ∧ b < w.heap.size ∧ ¬ Own Γ (dropH k h) ρ b := by
    rintro b (hb | ⟨r, hr, hb⟩)
    · refine ⟨(I.new k _ b hk hb).1, (I.new k _ b hk hb).2, ?_⟩
      rintro (hO | ⟨k1, e1, hk1, hb1⟩)
      · have := I.out b hO
        rcases (I.new k _ b hk hb).1 with h1 | h1
        · omega
        · exact this.2 h1
      · obtain ⟨h1, h2⟩ := dropH_lookup hk1
        exact h2 (I.sep k1 k e1 _ b h1 hk hb1 hb)
    · obtain ⟨_, xs, vals, _, hel⟩ := I.ent k _ hk
      obtain ⟨i, hi⟩ := List.getElem?_of_mem hr
      have h1 := Rep.zn hb (hel i r hi).1
      refine ⟨hzn r hr b hb, h1.1, ?_⟩
      rintro (hO | ⟨k1, e1, hk1, hb1⟩)
      · exact h1.2 (.inl hO)
      · exact h1.2 (.inr ⟨k1, e1, (dropH_lookup hk1).1, hb1⟩)
  refine hok (fun b => blk (ρ k) = some b ∨ ∃ r ∈ rs, Zn b r) (ρ k) (fun b hb => (hZb b hb).1) a w ⟨ρ, ?_⟩
  have J : Iv Γ ⟨t, dropH k h⟩ ρ a w := I.sub (fun _ _ h => h) fun k e h => (dropH_lookup h).1
  refine ⟨J.dfr, J.size, J.frm, ?_, J.ent, J.new, J.sep, J.out, J.inn⟩
  intro t' lv h'
  rcases tdT_lookup h' with h'' | ⟨h'', rfl⟩
  · exact J.tmp t' lv h''
  · have h1 : a.tmps.getD t' undef = ρ k := I.tmp t' _ h''
    show Rep w _ _ _
    rw [h1]
    exact .tr _ _ _ hT fun b hb => (hZb b hb).2
def endM (t n T : Nat) (Z : Nat → Prop) (R : Int → SV → Prop) : Exit → St → Prop
  | .normal, σ | .ret, σ => ∃ (k' : Int) (rs l : List SV), σ.ev (.tmp t) = .sv (.raw (.int .i64 k')) ∧ σ.h.lookup 0 = some (.row n T rs) ∧ rs.length = l.length ∧ (∀ (i : Nat) (r s : SV), rs[i]? = some r → l[i]? = some s → Gd r s) ∧
      (∀ (i j b : Nat) (ri rj : SV), rs[i]? = some ri → rs[j]? = some rj → Zn b ri → Zn b rj → i = j) ∧ (∀ r ∈ rs, ∀ b, Zn b r → Z b) ∧ R k' (.sl n l)
  | _, _ => False
theorem tree_open {w : World} {O : Nat → Prop} {Z : Nat → Prop} {s : SV} {v : Value} (h : Tree w Z s v) (hZ : ∀ b, Z b → b < w.heap.size ∧ ¬ O b) : ∃ r, Gd r s ∧ (∀ b, Zn b r → Z b) ∧ Rep w O r v := by
  induction h with
  | raw Z v => exact ⟨_, .raw v, fun b hb => (zn_raw hb).elim, .raw v⟩
  | nil Z sz a c => exact ⟨.tr Z (.sl sz []) _, .tr Z sz [] _, fun b hb => zn_tr hb, .tr Z _ _ (.nil Z sz a c) hZ⟩
  | sl Z sz T l b c cur vals z hb hl hc hz hcm hcs hg hel hsz hcl hzn hap ih => exact ⟨.tr Z (.sl sz l) _, .tr Z sz l _, fun b hb => zn_tr hb, .tr Z _ _ (.sl Z sz T l b c cur vals z hb hl hc hz hcm hcs hg hel hsz hcl hzn hap) hZ⟩
  | agg Z l vs z hn h1 h hzn hap ih =>
    have hx : ∀ i, i < l.length → ∃ r, (∀ s u, l[i]? = some s → vs[i]? = some u → Gd r s ∧ (∀ b, Zn b r → z i b) ∧ Rep w O r u) := by
      intro i hi
      obtain ⟨r, h1, h2, h3⟩ := ih i l[i] vs[i] (List.getElem?_eq_getElem hi) (Array.getElem?_eq_getElem (by omega)) (fun b hb => hZ b (hzn i b hb))
      refine ⟨r, fun s u hs hu => ?_⟩
      rw [List.getElem?_eq_getElem hi] at hs
      rw [Array.getElem?_eq_getElem (by omega)] at hu
      cases hs; cases hu
      exact ⟨h1, h2, h3⟩
    obtain ⟨f, hf⟩ := @choose_lt' SV ⟨.raw undef⟩ l.length _ hx
    have hget : ∀ i r, ((List.range l.length).map f)[i]? = some r → i < l.length ∧ f i = r := fun i r hi => get_of_family f hi
    refine ⟨.agg ((List.range l.length).map f), .agg _ _ (by simp) (fun i r s hr hs => ?_) (fun i j b ri rj hri hrj hbi hbj => ?_), fun b hb => ?_, .agg _ _ (by simp; omega) h1 (fun i r u hr hu => ?_)⟩
    · obtain ⟨hi, rfl⟩ := hget i r hr
      exact (hf i hi s _ hs (Array.getElem?_eq_getElem (by omega))).1
    · obtain ⟨hi, rfl⟩ := hget i ri hri
      obtain ⟨hj, rfl⟩ := hget j rj hrj
      exact hap i j b ((hf i hi _ _ (List.getElem?_eq_getElem hi) (Array.getElem?_eq_getElem (by omega))).2.1 b hbi) ((hf j hj _ _ (List.getElem?_eq_getElem hj) (Array.getElem?_eq_getElem (by omega))).2.1 b hbj)
    · obtain ⟨r, hr, hb'⟩ := zn_agg hb
      obtain ⟨i, hi'⟩ := List.getElem?_of_mem hr
      obtain ⟨hi, rfl⟩ := hget i r hi'
      exact hzn i b ((hf i hi _ _ (List.getElem?_eq_getElem hi) (Array.getElem?_eq_getElem (by omega))).2.1 b hb')
    · obtain ⟨hi, rfl⟩ := hget i r hr
      exact (hf i hi _ u (List.getElem?_eq_getElem hi) hu).2.2
theorem fnm_ok {P : Program} {f : FuncId} {fn : Func} {c : Code} {t n m : Nat} {l : List SV} {k : Int} {R : Int → SV → Prop} (hf : P.funcs[f]? = some fn) (hb : fn.body = some c) (hrs : fn.results = #[.tmp t]) (hnt : fn.ntmps = m) (hn : 2 ≤ m)
    (hnil : l = [] → ∀ (w : World) (v : Value), Rep w (fun _ => False) (.sl n []) v → Calls P f #[v, .int .i64 k] w fun e w' => ∃ k' s', e = .returned (.int .i64 k') ∧ R k' s' ∧ s' = .sl n [] ∧ Ext w w')
    (h : ∀ (w0 : World) (Z : Nat → Prop) (v : Value) (T : Nat) (rs : List SV), rs.length = l.length → 0 < l.length → (∀ (i : Nat) (r s : SV), rs[i]? = some r → l[i]? = some s → Gd r s) → (∀ (i j b : Nat) (ri rj : SV), rs[i]? = some ri → rs[j]? = some rj → Zn b ri → Zn b rj → i = j) → (∀ r ∈ rs, ∀ b, Zn b r → Z b) →
      Ok { P := P, w0 := w0, O := fun _ => False, M := Z, inn := fun i => if i = 0 then some v else none, n := m } c ⟨[(0, .own 0), (1, .sv (.raw (.int .i64 k)))], [(0, .row n T rs)]⟩ (endM t n T Z R)) : MarkC P f (.sl n l) k R := by
  intro w Z v hT hZ
  subst hnt
  generalize hs : SV.sl n l = s at hT
  cases hT with
  | raw => cases hs
  | agg => cases hs
  | nil _ sz a c' =>
    injection hs with h1 h2
    subst h1
    refine (hnil h2 w _ (.nil _ a c')).mono ?_
    rintro e w' ⟨k', s', he, hR, rfl, hx⟩
    exact ⟨k', _, he, hR, ⟨hx.os, hx.tape, hx.output, hx.size, fun b hb _ => hx.block b hb⟩, .nil _ _ _ _⟩
  | sl _ sz T l' b c' cur vals z hb' hl hc hz hcm hcs hg hel hsz hcl hzn hap =>
    injection hs with h1 h2
    subst h1 h2
    have hx : ∀ i, i < l.length → ∃ r, ∀ s, l[i]? = some s → Gd r s ∧ (∀ d, Zn d r → z i d) ∧ Rep w (fun d => d = b) r (vals i) := by
      intro i hi
      obtain ⟨r, h1, h2, h3⟩ := tree_open (O := fun d => d = b) (hel i l[i] (List.getElem?_eq_getElem hi)) (fun d hd => ⟨hZ d (hzn i d hd).1, (hzn i d hd).2⟩)
      refine ⟨r, fun s hs => ?_⟩
      rw [List.getElem?_eq_getElem hi] at hs
      cases hs
      exact ⟨h1, h2, h3⟩
    obtain ⟨g, hg'⟩ := @choose_lt' SV ⟨.raw undef⟩ l.length _ hx
    have hget : ∀ i r, ((List.range l.length).map g)[i]? = some r → i < l.length ∧ g i = r := fun i r hi => get_of_family g hi
    have hrl : ((List.range l.length).map g).length = l.length := by simp
    refine calls_of_wp hf hb ?_
    let Γ : Ctx := { P := P, w0 := w, O := fun _ => False, M := Z, inn := fun i => if i = 0 then some (.slice (some ⟨b, 0, none⟩) l.length c') else none, n := fn.ntmps }
    have hgap : ∀ (i j b : Nat) (ri rj : SV), ((List.range l.length).map g)[i]? = some ri → ((List.range l.length).map g)[j]? = some rj → Zn b ri → Zn b rj → i = j := by
      intro i j d ri rj hri hrj hdi hdj
      obtain ⟨hi, rfl⟩ := hget i ri hri
      obtain ⟨hj, rfl⟩ := hget j rj hrj
      exact hap i j d ((hg' i hi _ (List.getElem?_eq_getElem hi)).2.1 d hdi) ((hg' j hj _ (List.getElem?_eq_getElem hj)).2.1 d hdj)
    have hgz : ∀ r ∈ (List.range l.length).map g, ∀ d, Zn d r → Z d := by
      intro r hr d hd
      obtain ⟨i, hi'⟩ := List.getElem?_of_mem hr
      obtain ⟨hi, rfl⟩ := hget i r hi'
      exact (hzn i d ((hg' i hi _ (List.getElem?_eq_getElem hi)).2.1 d hd)).1
    have hggd : ∀ (i : Nat) (r s : SV), ((List.range l.length).map g)[i]? = some r → l[i]? = some s → Gd r s := by
      intro i r s hr hs
      obtain ⟨hi, rfl⟩ := hget i r hr
      exact (hg' i hi s hs).1
    have hmul : l.length * n ≤ cur.size := by rw [hcs]; exact Nat.mul_le_mul_right n hc
    have I : Inv Γ ⟨[(0, .own 0), (1, .sv (.raw (.int .i64 k)))], [(0, .row n T ((List.range l.length).map g))]⟩ { tmps := #[.slice (some ⟨b, 0, none⟩) l.length c', .int .i64 k] ++ Array.replicate (fn.ntmps - 2) undef, defers := [] } w := by
      have hlook : ∀ k' e, [(0, Ent.row n T ((List.range l.length).map g))].lookup k' = some e → k' = 0 ∧ e = .row n T ((List.range l.length).map g) := by
        intro k' e hk
        rw [List.lookup_cons] at hk
        cases hq : (k' == 0) with
        | true => simp only [hq, Option.some.injEq] at hk; exact ⟨by simpa using hq, hk.symm⟩
        | false => simp [hq] at hk
      have hown : ∀ d, Own Γ [(0, Ent.row n T ((List.range l.length).map g))] (fun _ => .slice (some ⟨b, 0, none⟩) l.length c') d → d = b := by
        rintro d (h | ⟨k', e, _, h⟩)
        · exact h.elim
        · simp [blk] at h; exact h.symm
      refine ⟨fun _ => .slice (some ⟨b, 0, none⟩) l.length c', ⟨rfl, by simp [Γ]; omega, ⟨rfl, rfl, rfl, Nat.le_refl _, fun _ _ _ => rfl⟩, ?_, ?_, ?_, ?_, fun b hb => hb.elim, ?_⟩⟩
      · intro t' lv ht
        rw [List.lookup_cons] at ht
        cases h0 : (t' == 0) with
        | true =>
          have : t' = 0 := by simpa using h0
          subst this
          simp only [h0, Option.some.injEq] at ht
          subst ht
          show Array.getD _ 0 undef = _
          rw [Array.getD_eq_getD_getElem?, Array.getElem?_append_left (by simp)]; rfl
        | false =>
          simp only [h0, List.lookup_cons] at ht
          cases h1 : (t' == 1) with
          | true =>
            have : t' = 1 := by simpa using h1
            subst this
            simp only [h1, Option.some.injEq] at ht
            subst ht
            show Rep w _ _ _
            have e : (#[Value.slice (some ⟨b, 0, none⟩) l.length c', .int .i64 k] ++ Array.replicate (fn.ntmps - 2) undef).getD 1 undef = .int .i64 k := by rw [Array.getD_eq_getD_getElem?, Array.getElem?_append_left (by simp)]; rfl
            rw [e]; exact .raw _
          | false => simp [h1] at ht
      · intro k' e hk
        obtain ⟨rfl, rfl⟩ := hlook k' e hk
        refine ⟨hz, cur.toList.take (l.length * n), vals, ⟨by rw [hrl, List.length_take, Array.length_toList]; exact Nat.min_eq_left hmul, .inr ⟨b, c', cur, by rw [hrl], Nat.zero_le _, hg, by rw [hrl]; exact hc, hcm, hcs, by rw [hrl]⟩⟩, fun i r hi => ?_⟩
        obtain ⟨hi', rfl⟩ := hget i r hi
        refine ⟨((hg' i hi' _ (List.getElem?_eq_getElem hi')).2.2).kp (fun d hd hno => ⟨rfl, fun h => hno (hown d h)⟩), hsz i hi', fun j u hu => ?_⟩
        have h3 := hcl i hi' j u hu
        have hjn : j < n := by
          have h4 := hsz i hi'
          have := (Array.getElem?_eq_some_iff.1 hu).1
          omega
        have hlt2 : i * n + j < l.length * n := by
          have : (i + 1) * n ≤ l.length * n := Nat.mul_le_mul_right n hi'
          rw [Nat.add_mul, Nat.one_mul] at this
          omega
        rw [List.getElem?_take, if_pos hlt2, Array.getElem?_toList]; exact h3
      · intro k' e d hk hd
        simp [blk] at hd
        subst hd
        exact ⟨.inr hb', hZ b hb'⟩
      · intro k1 k2 e1 e2 d h1 h2 _ _
        rw [(hlook k1 e1 h1).1, (hlook k2 e2 h2).1]
      · intro k' v hv
        simp only [Γ] at hv
        split at hv
        · simpa using hv
        · cases hv
    refine wp_mono (h w Z (.slice (some ⟨b, 0, none⟩) l.length c') T _ hrl hl hggd hgap hgz _ w I) ?_
    rintro e a' w' ⟨σ', hq, ρ, J⟩
    have hres : (results fn a'.tmps).run P w' = .ok (a'.tmps.getD t undef) w' := by
      unfold results
      rw [hrs]
      simp
    have fin : (∃ (k' : Int) (rs l : List SV), σ'.ev (.tmp t) = .sv (.raw (.int .i64 k')) ∧ σ'.h.lookup 0 = some (.row n T rs) ∧ rs.length = l.length ∧ (∀ (i : Nat) (r s : SV), rs[i]? = some r → l[i]? = some s → Gd r s) ∧
        (∀ (i j b : Nat) (ri rj : SV), rs[i]? = some ri → rs[j]? = some rj → Zn b ri → Zn b rj → i = j) ∧ (∀ r ∈ rs, ∀ b, Zn b r → Z b) ∧ R k' (.sl n l)) →
        a'.defers = [] ∧ ∃ v, (results fn a'.tmps).run P w' = .ok v w' ∧ ∃ k' s', Ending.returned v = .returned (.int .i64 k') ∧ R k' s' ∧ Chg Z w w' ∧ Tree w' Z s' (.slice (some ⟨b, 0, none⟩) l.length c') := by
      rintro ⟨k', rs, l2, h1, h2, h3, h4, h5, h6, h7⟩
      have hv : a'.tmps.getD t undef = .int .i64 k' := ev_raw J h1
      have hρ : ρ 0 = .slice (some ⟨b, 0, none⟩) l.length c' := J.inn 0 _ rfl
      have hT := row_tree J h2 h3 h4 h5
      rw [hρ] at hT
      refine ⟨J.dfr, _, hres, k', .sl n l2, by rw [hv], h7, ⟨J.frm.os, J.frm.tape, J.frm.output, J.frm.size, fun d hd hno => J.frm.block d hd hno⟩, hT.mono fun d hd => ?_⟩
      rcases hd with hd | ⟨r, hr, hd⟩
      · simp [blk] at hd; subst hd; exact hb'
      · exact h6 r hr d hd
    cases e with
    | normal => exact fin hq
    | ret => exact fin hq
    | _ => exact hq.elim
end Go.Abs

/- Calls whose arguments are trees; what stands aside; an empty row put in order. No condition. -/
namespace Go.Abs
open Go Go.RowKit Go.Eager
set_option linter.unusedVariables false
set_option linter.unusedSimpArgs false
def ArgOk (lv : LV) (s : SV) : Prop := lv = .sv s ∨ (∃ r, lv = .sv r ∧ Gd r s) ∨ ∃ Z, lv = .av Z s
def ArgsOk : List LV → List SV → Prop
  | [], [] => True
  | lv :: l, s :: m => ArgOk lv s ∧ ArgsOk l m
  | _, _ => False
theorem ArgOk.rep {w : World} {O : Nat → Prop} {ρ : Nat → Value} {lv : LV} {s : SV} {u : Value} (h : ArgOk lv s) (hr : LRep w O ρ lv u) : Rep w O s u := by
  rcases h with rfl | ⟨r, rfl, g⟩ | ⟨Z, rfl⟩
  · exact hr
  · exact g.rep hr
  · exact Rep.kp (O := fun b => O b ∨ Z b) hr fun b hb hno => ⟨rfl, fun h => hno (.inl h)⟩
theorem argsOk_len : ∀ {l : List LV} {m : List SV}, ArgsOk l m → l.length = m.length
  | [], [], _ => rfl
  | [], _ :: _, h => h.elim
  | _ :: _, [], h => h.elim
  | _ :: l, _ :: m, h => by simp [argsOk_len h.2]
theorem argsOk_get : ∀ {l : List LV} {m : List SV} {i : Nat} {s : SV}, ArgsOk l m → m[i]? = some s → ∃ lv, l[i]? = some lv ∧ ArgOk lv s
  | [], [], i, s, _, h => by simp at h
  | [], _ :: _, _, _, h, _ => h.elim
  | _ :: _, [], _, _, h, _ => h.elim
  | lv :: l, x :: m, 0, s, h, hs => by simp at hs; subst hs; exact ⟨lv, rfl, h.1⟩
  | lv :: l, x :: m, i + 1, s, h, hs => by
    obtain ⟨lv', h1, h2⟩ := argsOk_get h.2 (by simpa using hs)
    exact ⟨lv', by simpa using h1, h2⟩
def avK (ks : List Nat) (Z : Nat → Prop) (t : List (Nat × LV)) : List (Nat × LV) := t.map fun p => (p.1, if ks.contains p.1 then (match p.2 with | .sv s => .av Z s | .av Z' s => .av (fun b => Z' b ∨ Z b) s | lv => lv) else p.2)
theorem avK_lookup {ks : List Nat} {Z : Nat → Prop} {k : Nat} {lv : LV} : ∀ {t : List (Nat × LV)}, (avK ks Z t).lookup k = some lv → t.lookup k = some lv ∨ (∃ s, t.lookup k = some (.sv s) ∧ lv = .av Z s) ∨ ∃ Z' s, t.lookup k = some (.av Z' s) ∧ lv = .av (fun b => Z' b ∨ Z b) s
  | [], h => by simp [avK] at h
  | (a, x) :: t, h => by
    simp only [avK, List.map_cons, List.lookup_cons] at h ⊢
    cases hk : (k == a) with
    | false => simp only [hk] at h ⊢; exact avK_lookup h
    | true =>
      simp only [hk, Option.some.injEq] at h ⊢
      split at h
      · cases x <;> simp only at h <;> subst h <;> simp
      · subst h; exact .inl rfl
theorem PFn.toR {P : Program} {f : FuncId} {args : List SV} {r : SV} (h : PFn P f args r) (hr : ∀ b, ¬ Zn b r) : PFnR P f args fun x => x = r := by
  intro w O vs hO hsz hrep
  refine (h w O vs hO hsz hrep).mono ?_
  rintro e w' ⟨v, he, hx, hv⟩
  exact ⟨v, r, he, hx, rfl, fun b hb => (hr b hb).elim, hv⟩
section
variable {Γ : Ctx} {σ : St} {ρ : Nat → Value} {a : Act} {w : World}
theorem ok_callg (I : Iv Γ σ ρ a w) {o : Oper} {f : FuncId} {fn : Func} {args : Array Operand} {ts : Array TypeId} {sa : List SV} {R : SV → Prop} {d : Nat} (ks : List Nat) {K : St → Prop}
    (ho : o.op = .call { callee := .value (.func f), args := args, argTypes := ts }) (hd : o.dst = some d) (hdn : d < Γ.n) (hf : Γ.P.funcs[f]? = some fn) (hname : (fn.name == "runtime.NumGoroutine") = false) (hb : fn.body.isNone = false)
    (ha : ArgsOk (args.toList.map σ.ev) sa) (hc : PFnR Γ.P f sa R) (hk : ∀ r, R r → (∀ b, Zn b r → Γ.w0.heap.size ≤ b) → Apart σ.t σ.h r → K ⟨(d, .sv r) :: avK ks (fun b => Zn b r) σ.t, σ.h⟩) : XOk Γ a w o True K := by
  have hrun : (execOp a.eval o).run Γ.P w = .ok (.enter f (args.map a.eval)) w := by
    have hY : a.eval (.func f) = .func (.func f) #[] #[] := rfl
    simp [execOp, ho, resolve, hY, Deferred.ofValue, invoke, run_callFunc hf hname hb]
  have hsz : (args.map a.eval).size = sa.length := by have := argsOk_len ha; simp at this; simp [this]
  unfold XOk oN
  rw [hrun]
  refine (hc w (Own Γ σ.h ρ) (args.map a.eval) (fun b hb => blk_lt I hb) hsz fun i s u hi' hu => ?_).mono ?_
  · obtain ⟨lv, h3, h4⟩ := argsOk_get ha hi'
    rw [Array.getElem?_map] at hu
    rw [List.getElem?_map] at h3
    cases hx : args[i]? with
    | none => simp [hx] at hu
    | some x =>
      have hx' : args.toList[i]? = some x := by simpa using hx
      simp only [hx', Option.map_some, Option.some.injEq] at h3
      simp only [hx, Option.map_some, Option.some.injEq] at hu
      subst hu h3
      exact h4.rep (I.ev x)
  · rintro e w' ⟨v, r, he, hx, hR, hn, hv⟩
    have I1 := I.ext hx
    have hkp : ∀ {O1 : Nat → Prop}, Kp w O1 w' (fun b => O1 b ∨ Zn b r) := by
      intro O1 b hlt hno
      exact ⟨hx.block b hlt, fun h => h.elim hno fun h => by have := hn b h; omega⟩
    have I2 : Iv Γ ⟨avK ks (fun b => Zn b r) σ.t, σ.h⟩ ρ a w' := by
      refine ⟨I1.dfr, I1.size, I1.frm, fun k lv hk => ?_, I1.ent, I1.new, I1.sep, I1.out, I1.inn⟩
      rcases avK_lookup hk with h | ⟨s, h, rfl⟩ | ⟨Z', s, h, rfl⟩
      · exact I1.tmp k lv h
      · exact Rep.kp (I.tmp k _ h) hkp
      · have h1 : Rep w (fun b => Own Γ σ.h ρ b ∨ Z' b) s (a.tmps.getD k undef) := I.tmp k _ h
        refine Rep.kp h1 fun b hlt hno => ⟨hx.block b hlt, ?_⟩
        rintro (h2 | h2 | h2)
        · exact hno (.inl h2)
        · exact hno (.inr h2)
        · have := hn b h2; omega
    refine ⟨v, he, _, hk r hR (fun b hb => Nat.le_trans I.frm.size (hn b hb)) (apart_of I hn), ⟨ρ, ?_⟩, fun _ => hx⟩
    rw [hd]
    exact I2.put (d := some d) (lv := .sv r) (by simpa using hdn) hv
end
section
variable {Γ : Ctx} {ops : Array Oper} {l : List (Oper × Nat)} {t : List (Nat × LV)} {h : List (Nat × Ent)} {K : St → Prop} {c d ty : Nat} {ps : String} {af : Array Edge} {x y : Operand}
theorem q_callg {f : Nat} {args : Array Operand} {ts : Array Nat} {sa : List SV} {R : SV → Prop} (ks : List Nat) (hc : PFnR Γ.P f sa R) (hcl : Calb Γ.P f) (ha : ArgsOk (args.toList.map (St.ev ⟨t, h⟩)) sa)
    (hk : ∀ r, R r → (∀ b, Zn b r → Γ.w0.heap.size ≤ b) → Apart t h r → RunL Γ ops l ⟨(d, .sv r) :: avK ks (fun b => Zn b r) t, h⟩ K) :
    RunL Γ ops ((⟨some d, .call { callee := .value (.func f), args := args, argTypes := ts }, ty, ps, af, none⟩, c + 2) :: l) ⟨t, h⟩ K :=
  let ⟨_, hf', hname, hb⟩ := hcl
  run_x (ext := True) rfl (by omega) (fun _ => trivial) fun _ _ _ I hd => ok_callg I ks rfl rfl (by simpa [dstOk] using hd) hf' hname hb ha hc hk
theorem q_callp {f : Nat} {args : Array Operand} {ts : Array Nat} {sa : List SV} {u : Value} (hc : PFn Γ.P f sa (.raw u)) (hcl : Calb Γ.P f) (ha : ArgsOk (args.toList.map (St.ev ⟨t, h⟩)) sa)
    (hk : RunL Γ ops l ⟨(d, .sv (.raw u)) :: t, h⟩ K) :
    RunL Γ ops ((⟨some d, .call { callee := .value (.func f), args := args, argTypes := ts }, ty, ps, af, none⟩, c + 2) :: l) ⟨t, h⟩ K := by
  refine q_callg [] (hc.toR fun b hb => zn_raw hb) hcl ha ?_
  rintro r rfl _ _
  have e : avK [] (fun b => Zn b (.raw u)) t = t := by
    unfold avK
    conv => rhs; rw [← List.map_id t]
    apply List.map_congr_left
    intro p _
    simp
  rw [e]; exact hk
theorem run_read_w {o : Oper} {σ σw : St} (hg : o.guard = none) (hc : c ≠ 0) (hσ : ∀ ρ a w, Iv Γ σ ρ a w → Iv Γ σw ρ a w) (h : stepR Γ.P σw o.op fun lv => RunL Γ ops l (σ.put o.dst lv) K) (hh : σw.h = σ.h) : RunL Γ ops ((o, c) :: l) σ K := by
  intro hd a w ⟨ρ, I⟩
  simp only [List.all_cons, Bool.and_eq_true] at hd
  obtain ⟨lv, v, hk, hv, hrun⟩ := stepR_sound (hσ ρ a w I) h
  rw [hh] at hv
  have I' : Inv Γ (σ.put o.dst lv) (a.put o.dst v) w := ⟨ρ, I.put (dstOk_spec hd.1) hv⟩
  unfold wpP
  split
  · exact ⟨v, .inl ⟨wanted_none hg _, fun w' hx => hrun w' (hx.resolve_left hc)⟩, hk hd.2 _ _ I'⟩
  · rw [if_pos (wanted_none hg _)]
    unfold oN
    rw [hrun w (Ext.refl w)]
    exact ⟨fun _ => Ext.refl w, hk hd.2 _ _ I'⟩
theorem q_ldsa {S i : Nat} {Z : Nat → Prop} (r : List SV) (hg : aggOf Γ.P S = some true) (hx : t.lookup i = some (.av Z (.ptr (.agg r)))) (hs : szOf Γ.P S = some r.length) (hk : RunL Γ ops l ⟨(d, .sv (.agg r)) :: t, h⟩ K) :
    RunL Γ ops ((⟨some d, .load S (.tmp i), ty, ps, af, none⟩, c + 1) :: l) ⟨t, h⟩ K := by
  refine run_read_w (σw := ⟨(i, .sv (.ptr (.agg r))) :: t, h⟩) rfl (by omega) (fun ρ a w I => ?_) ?_ rfl
  · refine ⟨I.dfr, I.size, I.frm, fun k lv hk' => ?_, I.ent, I.new, I.sep, I.out, I.inn⟩
    rw [List.lookup_cons] at hk'
    cases hq : (k == i) with
    | false => simp only [hq] at hk'; exact I.tmp k lv hk'
    | true =>
      have : k = i := by simpa using hq
      subst this
      simp only [hq, Option.some.injEq] at hk'
      subst hk'
      have h1 : Rep w (fun b => Own Γ h ρ b ∨ Z b) (.ptr (.agg r)) (a.tmps.getD k undef) := I.tmp k _ hx
      exact Rep.kp h1 fun b hb hno => ⟨rfl, fun h => hno (.inl h)⟩
  · have e : St.ev ⟨(i, .sv (.ptr (.agg r))) :: t, h⟩ (.tmp i) = .sv (.ptr (.agg r)) := by simp [St.ev, List.lookup_cons]
    simp only [stepR, e]
    exact ⟨_, hg, (fun h => by cases h), fun _ => ⟨r, rfl, hs, hk⟩⟩
theorem ok_nilT {Γ : Ctx} {code : Code} {t : List (Nat × LV)} {h : List (Nat × Ent)} {Q : Exit → St → Prop} {d : Nat} (n : Nat) (hok : Ok Γ code ⟨(d, .sv (.tr (fun _ => False) (.sl n []) (.slice none 0 0))) :: t, h⟩ Q) : Ok Γ code ⟨(d, .sv (.raw (.slice none 0 0))) :: t, h⟩ Q := by
  rintro a w ⟨ρ, I⟩
  refine hok a w ⟨ρ, I.dfr, I.size, I.frm, fun k lv hk => ?_, I.ent, I.new, I.sep, I.out, I.inn⟩
  rw [List.lookup_cons] at hk
  cases hq : (k == d) with
  | false => simp only [hq] at hk; exact I.tmp k lv (by rw [List.lookup_cons, hq]; exact hk)
  | true =>
    have h1 := I.tmp k (.sv (.raw (.slice none 0 0))) (by rw [List.lookup_cons, hq])
    simp only [hq, Option.some.injEq] at hk
    subst hk
    have h2 : a.tmps.getD k undef = .slice none 0 0 := rep_raw' h1
    show Rep w _ _ _
    rw [h2]
    exact .tr _ _ _ (.nil _ _ _ _) fun b hb => hb.elim
end
end Go.Abs

/- A copy within a row of ours, elements of some cells each. No condition. -/
namespace Go.Abs
open Go Go.RowKit Go.Eager
set_option linter.unusedVariables false
theorem run_copy_rowN {P : Program} (w : World) (dT sT ty elem : TypeId) (g o dLen dCap n : Nat) (a : Addr) (sLen sCap : Nat) (cur : Array Value) (t : TypeId) (cs : List Value)
    (hu : P.underlying dT = some (.slice elem)) (hs : (P.info? elem).map (·.size) = some n)
    (hg : w.heap[g]? = some (.cells cur t (0, 0))) (hn : cs.length = Nat.min sLen dLen * n)
    (hsrc : ∀ j v, cs[j]? = some v → w.cell? (a.add j) = some v) (hfit : o + cs.length ≤ cur.size) (h1 : ∀ v ∈ cs, v.oneCell' = true) :
    (Builtin.copy_ #[dT, sT] ty #[.slice (some ⟨g, o, none⟩) dLen dCap, .slice (some a) sLen sCap]).run P w =
      .ok (goInt (Nat.min sLen dLen)) (w.setRow g (cur.toList.take o ++ cs ++ cur.toList.drop (o + cs.length)).toArray) := by
  have hl := run_loadCells_list (P := P) w a cs hsrc
  have hst := run_storeCells_at P g o t cs 0 cur w hg (by simpa using hfit) h1
  cases hq : P.info? elem with
  | none => simp [hq] at hs
  | some i =>
    have hi : i.size = n := by simpa [hq] using hs
    simp [Builtin.copy_, run_underlying hu, Builtin.lenOf, Builtin.firstCells, sizeOf, typeInfo, hq, hi, ← hn, hl, hst]
theorem row_one {w : World} {O : Nat → Prop} {n : Nat} {xs : List Value} {l : List SV} {vals : Nat → Value} (hz : 0 < n) (hl : xs.length = l.length * n)
    (hrep : ∀ (i : Nat) (s : SV), l[i]? = some s → Rep w O s (vals i) ∧ (vals i).cells.size = n ∧ ∀ (j : Nat) (u : Value), (vals i).cells[j]? = some u → xs[i * n + j]? = some u)
    (h1 : ∀ s ∈ l, (∃ c, s = .agg c) ∨ s.one = true) : ∀ u ∈ xs, u.oneCell' = true := by
  intro u hu'
  obtain ⟨m, hm⟩ := List.mem_iff_getElem?.1 hu'
  have hmlt : m < l.length * n := by have := (List.getElem?_eq_some_iff.1 hm).1; omega
  have g1 : m / n < l.length := Nat.div_lt_of_lt_mul (by rw [Nat.mul_comm]; exact hmlt)
  have hsr := List.getElem?_eq_getElem g1
  obtain ⟨q1, q2, q3⟩ := hrep _ _ hsr
  obtain ⟨k1', k2'⟩ := sv_cells q1 (h1 _ (List.getElem_mem g1))
  have hmn : m % n < n := Nat.mod_lt _ hz
  have hlt : m % n < (vals (m / n)).cells.size := by omega
  have h4 := Array.getElem?_eq_getElem hlt
  have h5 := q3 _ _ h4
  have h6 : m / n * n + m % n = m := by rw [Nat.mul_comm, Nat.div_add_mod]
  rw [h6, hm] at h5
  have hlt' : m % n < (l[m / n]).cells.length := by omega
  have h7 := (k2' (m % n) _ _ (List.getElem?_eq_getElem hlt') h4).2
  rw [Option.some.inj h5]; exact h7
theorem cpy_cells {xs : List Value} {n m i j r q : Nat} (hz : 0 < n) (hl : xs.length = m * n) (hi : i ≤ m) (hj : j ≤ m) (hq : q < n) (K : Nat) (hK : K = Nat.min (m - j) (m - i)) :
    (cpy xs (i * n) (j * n))[r * n + q]? = if i ≤ r ∧ r < i + K then xs[(j + (r - i)) * n + q]? else xs[r * n + q]? := by
  have hin : i * n ≤ m * n := Nat.mul_le_mul_right n hi
  have hlen : ((xs.drop (j * n)).take (xs.length - i * n)).length = K * n := by
    rw [List.length_take, List.length_drop, hl, ← Nat.sub_mul, ← Nat.sub_mul, hK]
    rcases Nat.le_total (m - j) (m - i) with h | h
    · rw [show Nat.min (m - j) (m - i) = m - j from Nat.min_eq_left h]
      exact Nat.min_eq_right (Nat.mul_le_mul_right n h)
    · rw [show Nat.min (m - j) (m - i) = m - i from Nat.min_eq_right h]
      exact Nat.min_eq_left (Nat.mul_le_mul_right n h)
  rw [cpy_get xs (i * n) (j * n) (by omega), hlen, ← Nat.add_mul]
  by_cases h1 : i ≤ r
  · have a1 : i * n ≤ r * n := Nat.mul_le_mul_right n h1
    by_cases h2 : r < i + K
    · have a2 : (r + 1) * n ≤ (i + K) * n := Nat.mul_le_mul_right n h2
      rw [Nat.add_mul, Nat.one_mul] at a2
      rw [if_pos ⟨by omega, by omega⟩, if_pos ⟨h1, h2⟩]
      congr 1
      rw [Nat.add_mul, Nat.sub_mul]
      omega
    · have a2 : (i + K) * n ≤ r * n := Nat.mul_le_mul_right n (by omega)
      rw [if_neg (by omega), if_neg (by omega)]
  · have a1 : (r + 1) * n ≤ i * n := Nat.mul_le_mul_right n (by omega)
    rw [Nat.add_mul, Nat.one_mul] at a1
    rw [if_neg (by omega), if_neg (by omega)]
section
variable {Γ : Ctx} {σ : St} {ρ : Nat → Value} {a : Act} {w : World}
theorem ok_copyn (I : Iv Γ σ ρ a w) {o : Oper} {x y : Operand} {t t' k n T e i j : Nat} {l : List SV} {K : St → Prop} (ho : o.op = .call { callee := .builtin .copy, args := #[x, y], argTypes := #[t, t'] }) (hdn : dstOk Γ o = true) (he : elOf Γ.P t = some (e, n))
    (hx : σ.ev x = .osub k n i) (hy : σ.ev y = .osub k n j) (hk : σ.h.lookup k = some (.row n T l)) (hi : i ≤ l.length) (hj : j ≤ l.length) (h1 : ∀ s ∈ l, (∃ c, s = .agg c) ∨ s.one = true)
    (hK : K ((⟨σ.t, ins k (.row n T (cpy l i j)) σ.h⟩ : St).put o.dst .dead)) : XOk Γ a w o False K := by
  obtain ⟨hu, hs⟩ := elOf_spec he
  have hX := I.ev x
  have hY := I.ev y
  rw [hx] at hX
  rw [hy] at hY
  obtain ⟨g, m, c, hr, hxv⟩ := hX
  obtain ⟨g', m', c', hr', hyv⟩ := hY
  rw [hr] at hr'
  simp only [Value.slice.injEq, Option.some.injEq, Addr.mk.injEq, and_true] at hr'
  obtain ⟨rfl, rfl, rfl⟩ := hr'
  obtain ⟨hz, xs, vals, hown, hrep⟩ := I.ent k _ hk
  have hown' := hown
  rw [hr] at hown'
  rcases hown'.2 with ⟨h, _⟩ | ⟨g2, c2, cur, hv, _, hg, hcap, hmax, hcs, htk⟩
  · cases h
  · simp only [Value.slice.injEq, Option.some.injEq, Addr.mk.injEq, and_true] at hv
    obtain ⟨rfl, rfl, rfl⟩ := hv
    have hxl : xs.length = l.length * n := hown.1
    have hxo := row_one hz hxl hrep h1
    have hin : i * n ≤ l.length * n := Nat.mul_le_mul_right n hi
    have hjn : j * n ≤ l.length * n := Nat.mul_le_mul_right n hj
    have hcn : l.length * n ≤ c * n := Nat.mul_le_mul_right n hcap
    have hcurL : ∀ q, q < l.length * n → cur.toList[q]? = xs[q]? := by
      intro q hq
      rw [← htk, List.getElem?_take, if_pos hq]
    generalize hKK : Nat.min (l.length - j) (l.length - i) = KK
    have hK1 : KK ≤ l.length - j := by rw [← hKK]; exact Nat.min_le_left _ _
    have hK2 : KK ≤ l.length - i := by rw [← hKK]; exact Nat.min_le_right _ _
    generalize hcs' : (xs.drop (j * n)).take (xs.length - i * n) = cs
    have hcl : cs.length = KK * n := by
      rw [← hcs', List.length_take, List.length_drop, hxl, ← Nat.sub_mul, ← Nat.sub_mul, ← hKK]
      rcases Nat.le_total (l.length - j) (l.length - i) with h | h
      · rw [show Nat.min (l.length - j) (l.length - i) = l.length - j from Nat.min_eq_left h]
        exact Nat.min_eq_right (Nat.mul_le_mul_right n h)
      · rw [show Nat.min (l.length - j) (l.length - i) = l.length - i from Nat.min_eq_right h]
        exact Nat.min_eq_left (Nat.mul_le_mul_right n h)
    have hK1n : KK * n ≤ l.length * n - j * n := by rw [← Nat.sub_mul]; exact Nat.mul_le_mul_right n hK1
    have hK2n : KK * n ≤ l.length * n - i * n := by rw [← Nat.sub_mul]; exact Nat.mul_le_mul_right n hK2
    have hKz : KK = 0 → cs = [] := fun h => List.eq_nil_of_length_eq_zero (by rw [hcl, h, Nat.zero_mul])
    have hrun : ∃ p, (c ≠ i → p = i * n) ∧ p ≤ i * n ∧ a.eval x = .slice (some ⟨g, p, none⟩) (l.length - i) (c - i) := by
      by_cases hc : c = i
      · exact ⟨0, fun h => (h hc).elim, Nat.zero_le _, by rw [hxv, if_pos hc]⟩
      · exact ⟨i * n, fun _ => rfl, Nat.le_refl _, by rw [hxv, if_neg hc]⟩
    have hrun2 : ∃ q, (c ≠ j → q = j * n) ∧ a.eval y = .slice (some ⟨g, q, none⟩) (l.length - j) (c - j) := by
      by_cases hc : c = j
      · exact ⟨0, fun h => (h hc).elim, by rw [hyv, if_pos hc]⟩
      · exact ⟨j * n, fun _ => rfl, by rw [hyv, if_neg hc]⟩
    obtain ⟨p, hp1, hp2, hpx⟩ := hrun
    obtain ⟨q, hq1, hqy⟩ := hrun2
    have hsrc : ∀ r v, cs[r]? = some v → w.cell? ((⟨g, q, none⟩ : Addr).add r) = some v := by
      intro r v hv
      have hlt := (List.getElem?_eq_some_iff.1 hv).1
      have hcj : c ≠ j := by
        intro h
        have : KK = 0 := by omega
        rw [hKz this] at hlt
        simp at hlt
      rw [addr_add, hq1 hcj]
      rw [← hcs', List.getElem?_take, if_pos (by omega), List.getElem?_drop] at hv
      rw [← hcurL (j * n + r) (by omega), Array.getElem?_toList] at hv
      simp [World.cell?, hg, hv]
    have hrun3 := run_copy_rowN (P := Γ.P) w t t' o.type e g p (l.length - i) (c - i) n ⟨g, q, none⟩ (l.length - j) (c - j) cur T cs hu hs hg (by rw [hKK]; exact hcl) hsrc (by rw [hcs]; omega) (fun v hv => hxo v (by rw [← hcs'] at hv; exact List.mem_of_mem_drop (List.mem_of_mem_take hv)))
    have run : (execOp a.eval o).run Γ.P w = .ok (.value (goInt (Nat.min (l.length - j) (l.length - i)))) (w.setRow g (cur.toList.take p ++ (cs ++ cur.toList.drop (p + cs.length))).toArray) := by
      simp [execOp, ho, resolve, invoke, builtin, hpx, hqy, hrun3]
    unfold XOk oN
    rw [run]
    have hbk : blk (ρ k) = some g := by rw [hr]; rfl
    have hsz : ∀ cs', (w.setRow g cs').heap.size = w.heap.size := fun cs' => by simp [World.setRow]
    refine ⟨_, hK, ⟨ρ, ?_⟩, fun h => h.elim⟩
    refine (I.turn (w' := w.setRow g (cur.toList.take p ++ (cs ++ cur.toList.drop (p + cs.length))).toArray) (e := .row n T (cpy l i j)) hk ⟨rfl, rfl, rfl, by rw [hsz]; exact Nat.le_refl _⟩ (fun b hb hne => setRow_other w g b _ (fun h => hne (by rw [hbk, h]))) ?_).put (dstOk_spec hdn) trivial
    have hnl : (cur.toList.take p ++ (cs ++ cur.toList.drop (p + cs.length))).length = cur.size := by simp; omega
    have hxc : cpy xs (i * n) (j * n) = (cur.toList.take p ++ (cs ++ cur.toList.drop (p + cs.length))).take (l.length * n) := by
      apply List.ext_getElem?
      intro r
      rw [cpy_get xs (i * n) (j * n) (by omega), hcs']
      by_cases hrl : r < l.length * n
      · rw [List.getElem?_take, if_pos hrl]
        by_cases hc : c = i
        · have hc0 : cs = [] := hKz (by omega)
          rw [if_neg (by intro h; have := h.2; rw [hc0, List.length_nil] at this; omega), hc0]
          simp only [List.length_nil, Nat.add_zero, List.nil_append, List.take_append_drop]
          exact (hcurL r hrl).symm
        · have hpi := hp1 hc
          subst hpi
          by_cases h2 : i * n ≤ r ∧ r < i * n + cs.length
          · rw [if_pos h2, List.getElem?_append_right (by simp; omega), List.getElem?_append_left (by simp; omega), ← hcs', List.getElem?_take, if_pos (by simp; omega), List.getElem?_drop]
            congr 1; simp; omega
          · rw [if_neg h2]
            by_cases h3 : r < i * n
            · rw [List.getElem?_append_left (by simp; omega), List.getElem?_take, if_pos h3]; exact (hcurL r hrl).symm
            · rw [List.getElem?_append_right (by simp; omega), List.getElem?_append_right (by simp; omega), List.getElem?_drop, ← hcurL r hrl]
              congr 1; simp; omega
      · rw [List.getElem?_take, if_neg hrl, if_neg (by omega), List.getElem?_eq_none (by omega)]
    refine ⟨hz, cpy xs (i * n) (j * n), fun r => if i ≤ r ∧ r < i + KK then vals (j + (r - i)) else vals r, ?_, fun r s hr' => ?_⟩
    · rw [hr, cpy_len _ _ _ hi]
      refine ⟨by rw [cpy_len _ _ _ (by omega), hxl], .inr ⟨g, c, _, rfl, Nat.zero_le _, setRow_heap w g cur _ T _ hg, hcap, hmax, by simpa [hcs] using hnl, ?_⟩⟩
      rw [hxc]
    · have hkp : Kp w (Own Γ σ.h ρ) (w.setRow g (cur.toList.take p ++ (cs ++ cur.toList.drop (p + cs.length))).toArray) (Own Γ (ins k (.row n T (cpy l i j)) σ.h) ρ) := by
        intro b hb hno
        refine ⟨setRow_other w g b _ (fun h => hno (.inr ⟨k, _, hk, by rw [hbk, h]⟩)), ?_⟩
        rintro (hO | ⟨k1, e1, hk1, hb1⟩)
        · exact hno (.inl hO)
        · rw [lookup_ins] at hk1
          by_cases hkk : k1 = k
          · subst hkk; exact hno (.inr ⟨k1, _, hk, hb1⟩)
          · rw [if_neg hkk] at hk1; exact hno (.inr ⟨k1, e1, hk1, hb1⟩)
      have hcl3 : ((l.drop j).take (l.length - i)).length = KK := by rw [List.length_take, List.length_drop, ← hKK]; exact Nat.min_comm _ _
      rw [cpy_get l i j hi, hcl3] at hr'
      by_cases h2 : i ≤ r ∧ r < i + KK
      · simp only [if_pos h2] at hr' ⊢
        obtain ⟨r1, r2, r3⟩ := hrep _ _ hr'
        refine ⟨r1.kp hkp, r2, fun j' u hu' => ?_⟩
        have hjn : j' < n := by have := (Array.getElem?_eq_some_iff.1 hu').1; omega
        rw [cpy_cells hz hxl hi hj hjn KK hKK.symm, if_pos h2]
        exact r3 j' u hu'
      · simp only [if_neg h2] at hr' ⊢
        obtain ⟨r1, r2, r3⟩ := hrep _ _ hr'
        refine ⟨r1.kp hkp, r2, fun j' u hu' => ?_⟩
        have hjn : j' < n := by have := (Array.getElem?_eq_some_iff.1 hu').1; omega
        rw [cpy_cells hz hxl hi hj hjn KK hKK.symm, if_neg h2]
        exact r3 j' u hu'
end
section
variable {Γ : Ctx} {ops : Array Oper} {l : List (Oper × Nat)} {t : List (Nat × LV)} {h : List (Nat × Ent)} {K : St → Prop} {c d ty : Nat} {ps : String} {af : Array Edge} {x y : Operand}
theorem q_copyn {S S' k n T e i j : Nat} {r : List SV} (he : elOf Γ.P S = some (e, n)) (hx : St.ev ⟨t, h⟩ x = .osub k n i) (hy : St.ev ⟨t, h⟩ y = .osub k n j) (hh : h.lookup k = some (.row n T r)) (hi : i ≤ r.length) (hj : j ≤ r.length) (h1 : ∀ s ∈ r, (∃ c, s = .agg c) ∨ s.one = true)
    (hk : RunL Γ ops l ⟨(d, .dead) :: t, ins k (.row n T (cpy r i j)) h⟩ K) :
    RunL Γ ops ((⟨some d, .call { callee := .builtin .copy, args := #[x, y], argTypes := #[S, S'] }, ty, ps, af, none⟩, 2) :: l) ⟨t, h⟩ K :=
  run_x (ext := False) rfl (by omega) (fun h => (h rfl).elim) fun _ _ _ I hd => ok_copyn I rfl hd he hx hy hh hi hj h1 hk
end
end Go.Abs

/- slices.Insert of one element into a row of ours. No condition. -/
set_option linter.unusedVariables false
set_option linter.unusedSimpArgs false
namespace Go.Abs
open Go Go.RowKit Go.Eager Go.Shelf Go.Lib Go.Proofs
noncomputable def insF (ρ : Ren) (nm : String) (ta : Array TypeId) : Func := { Body2.n22 ρ with name := nm, targs := ta }
structure InsL (P : Program) (ρ : Ren) (s by_ : Nat) (z : Value) : Prop where
  mixed : P.follows .mixedOrders = true
  f22 : ∃ nm ta, P.funcs[ρ.f 22]? = some (insF ρ nm ta)
  f29 : ∃ fn, P.funcs[ρ.f 29]? = some fn ∧ (fn.name == "runtime.NumGoroutine") = false ∧ fn.body.isNone = true ∧ Extern.findNext fn = none ∧ Extern.find fn = some (Extern.SlicesOverlaps.overlaps #[(ρ.t 24), (ρ.t 24)] #[(ρ.t 4)])
  t3 : P.underlying (ρ.t 3) = some (TypeDesc.int IntKind.i64)
  a3 : ∀ w, (isAgg (ρ.t 3)).run P w = .ok false w
  t4 : P.underlying (ρ.t 4) = some (TypeDesc.bool)
  a4 : ∀ w, (isAgg (ρ.t 4)).run P w = .ok false w
  z9 : ∀ w, (Go.sizeOf (ρ.t 9)).run P w = .ok s w
  t24 : P.underlying (ρ.t 24) = some (TypeDesc.slice (ρ.t 9))
  a24 : ∀ w, (isAgg (ρ.t 24)).run P w = .ok false w
  i9 : (P.info? (ρ.t 9)).map (fun i => (i.zero, i.size, i.bytes)) = some (some z, s, by_)
  zs : z.cells.size = s
section
variable {P : Program} {ρ : Ren}
theorem shape_cells {w : World} {b : Nat} {cur : Array Value} {T : TypeId} {fr : Nat × Nat} (h : w.heap[b]? = some (.cells cur T fr)) : w.shape? b = some (T, cur.size) := by
  simp [World.shape?, h]
theorem frozen_cells {w : World} {b o : Nat} {cur : Array Value} {T : TypeId} (h : w.heap[b]? = some (.cells cur T (0, 0))) : w.frozen? ⟨b, o, none⟩ = false := by
  simp [World.frozen?, h]
theorem cell_cells {w : World} {b o : Nat} {cur : Array Value} {T : TypeId} {fr : Nat × Nat} (h : w.heap[b]? = some (.cells cur T fr)) : w.cell? ⟨b, o, none⟩ = cur[o]? := by
  simp [World.cell?, h]
set_option maxHeartbeats 4000000 in
set_option maxRecDepth 100000 in
theorem ins_shift {s by_ : Nat} {z : Value} (L : InsL P ρ s by_ z) (hs : 0 < s) (b n c i vb vc T Tv : Nat) (cur cv : Array Value) (cs vs : List Value) (w : World) (hi : i < n) (hroom : n + 1 ≤ c) (hc63 : c ≤ 9223372036854775807) (hvb : vb ≠ b)
    (hg : w.heap[b]? = some (.cells cur T (0, 0))) (hcs : cur.size = c * s) (hcl : cs.length = n * s) (htk : cur.toList.take (n * s) = cs) (hgv : w.heap[vb]? = some (.cells cv Tv (0, 0))) (hvt : cv.toList.take s = vs) (hvl : vs.length = s)
    (h1c : ∀ v ∈ cs, v.oneCell' = true) (h1v : ∀ v ∈ vs, v.oneCell' = true) :
    Calls P (ρ.f 22) #[.slice (some ⟨b, 0, none⟩) n c, .int .i64 i, .slice (some ⟨vb, 0, none⟩) 1 vc] w fun e w' =>
      e = .returned (.slice (some ⟨b, 0, none⟩) (n + 1) c) ∧ ∃ cur' : Array Value, w' = w.drew.setRow b cur' ∧ cur'.size = cur.size ∧ cur'.toList.take ((n + 1) * s) = cs.take (i * s) ++ vs ++ cs.drop (i * s) := by
  obtain ⟨nm, ta, hf22⟩ := L.f22
  obtain ⟨fo, hf29, ho1, ho2, ho3, ho4⟩ := L.f29
  have t3 := L.t3; have a3 := L.a3; have t4 := L.t4; have a4 := L.a4; have z9 := L.z9; have t24 := L.t24; have a24 := L.a24
  have u3 := run_underlying L.t3; have u4 := run_underlying L.t4; have u24 := run_underlying L.t24
  have hz2 : ¬ ((i : Int) = (n : Int)) := by omega
  have hsz : (P.info? (ρ.t 9)).map (·.size) = some s := by
    obtain ⟨i0, hi0, h0, h1, h2⟩ := info_parts L.i9
    rw [hi0]; simp [h1]
  have e1 : (i + 1) * s = i * s + s := by rw [Nat.add_mul, Nat.one_mul]
  have e2 : (n + 1) * s = n * s + s := by rw [Nat.add_mul, Nat.one_mul]
  have e3 : i * s + (n - i) * s = n * s := by rw [← Nat.add_mul]; congr 1; omega
  have e4 : (n + 1) * s ≤ c * s := Nat.mul_le_mul_right s hroom
  have hcurc : ∀ j v, cs[j]? = some v → cur[j]? = some v := fun j v hj => by
    have hlt := (List.getElem?_eq_some_iff.1 hj).1
    rw [← htk, List.getElem?_take, if_pos (by omega), Array.getElem?_toList] at hj
    exact hj
  have hcvc : ∀ j v, vs[j]? = some v → cv[j]? = some v := fun j v hj => by
    have hlt := (List.getElem?_eq_some_iff.1 hj).1
    rw [← hvt, List.getElem?_take, if_pos (by omega), Array.getElem?_toList] at hj
    exact hj
  have hov : ∀ lb cb, (callFunc (ρ.f 29) #[.slice (some ⟨vb, 0, none⟩) 1 vc, .slice (some ⟨b, i * s + s, none⟩) lb cb]).run P w = .ok (.value (.bool false)) w := fun lb cb => by
    rw [run_callFunc_extern hf29 ho1 ho2 ho3 ho4,
      Lib.run_overlaps_apart w (ρ.t 24) (ρ.t 4) (ρ.t 9) L.t24 s L.z9 ⟨vb, 0, none⟩ ⟨b, i * s + s, none⟩ 1 vc lb cb hvb Tv T cv.size cur.size (shape_cells hgv) (shape_cells hg) (by rw [hcs]; omega) (frozen_cells hgv) (frozen_cells hgv)]
    rfl
  have hdl : (cs.drop (i * s)).length = (n - i) * s := by rw [List.length_drop, hcl]; omega
  have mixed := L.mixed
  have hw1 : IntKind.i64.wrap ((i : Int) + 1) = (i : Int) + 1 := by rw [IntKind.wrap_i64]; omega
  have hw2 : IntKind.i64.wrap ((n : Int) + 1) = (n : Int) + 1 := by rw [IntKind.wrap_i64]; omega
  have hb1 : (0 : Int) ≤ (i : Int) + 1 := by omega
  have hin : i ≤ n := by omega
  have htn : ((i : Int) + 1).toNat = i + 1 := by omega
  have hb2 : ¬ (c = i + 1) := by omega
  have hb3 : (i : Int) ≤ (n : Int) + 1 := by omega
  have hb4 : ¬ (c = i) := by omega
  have hmin : Nat.min (n + 1 - i) (n - i) = n - i := by simp only [Nat.min_def]; split <;> omega
  have hmin2 : Nat.min 1 (n + 1 - i) = 1 := by simp only [Nat.min_def]; split <;> omega
  obtain ⟨cur1, hcur1⟩ : ∃ cur1 : Array Value, cur1.toList = cur.toList.take (i * s + s) ++ cs.drop (i * s) ++ cur.toList.drop (i * s + s + (cs.drop (i * s)).length) := ⟨(cur.toList.take (i * s + s) ++ cs.drop (i * s) ++ cur.toList.drop (i * s + s + (cs.drop (i * s)).length)).toArray, by simp⟩
  have hgd : w.drew.heap[b]? = some (.cells cur T (0, 0)) := hg
  have hcp1 : ∀ ty dc sc, (Builtin.copy_ #[(ρ.t 24), (ρ.t 24)] ty #[.slice (some ⟨b, i * s + s, none⟩) (n - i) dc, .slice (some ⟨b, i * s, none⟩) (n + 1 - i) sc]).run P w.drew = .ok (goInt (n - i : Nat)) (w.drew.setRow b cur1) := fun ty dc sc => by
    have h := run_copy_rowN (P := P) w.drew (ρ.t 24) (ρ.t 24) ty (ρ.t 9) b (i * s + s) (n - i) dc s ⟨b, i * s, none⟩ (n + 1 - i) sc cur T (cs.drop (i * s)) L.t24 hsz hgd (by rw [hmin]; exact hdl)
      (fun j v hj => by rw [addr_add, cell_cells hgd]; exact hcurc _ _ (by rwa [List.getElem?_drop] at hj)) (by rw [hdl, hcs]; omega) (fun v hv => h1c v (List.mem_of_mem_drop hv))
    rw [hmin] at h
    rw [h, ← hcur1]
  have hsz1 : cur1.size = cur.size := by rw [← Array.length_toList, hcur1]; simp [hdl]; omega
  have hg1 : (w.drew.setRow b cur1).heap[b]? = some (.cells cur1 T (0, 0)) := setRow_heap w.drew b cur cur1 T _ hgd
  obtain ⟨cur2, hcur2⟩ : ∃ cur2 : Array Value, cur2.toList = cur1.toList.take (i * s) ++ vs ++ cur1.toList.drop (i * s + vs.length) := ⟨(cur1.toList.take (i * s) ++ vs ++ cur1.toList.drop (i * s + vs.length)).toArray, by simp⟩
  have hcp2 : ∀ (ty dc : Nat), (Builtin.copy_ #[(ρ.t 24), (ρ.t 24)] ty #[.slice (some ⟨b, i * s, none⟩) (n + 1 - i) dc, .slice (some ⟨vb, 0, none⟩) 1 vc]).run P (w.drew.setRow b cur1) = .ok (goInt (1 : Nat)) ((w.drew.setRow b cur1).setRow b cur2) := fun ty dc => by
    have h := run_copy_rowN (P := P) (w.drew.setRow b cur1) (ρ.t 24) (ρ.t 24) ty (ρ.t 9) b (i * s) (n + 1 - i) dc s ⟨vb, 0, none⟩ 1 vc cur1 T vs L.t24 hsz hg1 (by rw [hmin2, Nat.one_mul]; exact hvl)
      (fun j v hj => by
        rw [addr_add, cell_cells (b := vb) (o := 0 + j) (cur := cv) (T := Tv) (fr := (0, 0)) ((setRow_other w.drew b vb cur1 hvb).trans hgv), Nat.zero_add]
        exact hcvc j v hj) (by rw [hvl, hsz1, hcs]; omega) h1v
    rw [hmin2] at h
    rw [h, ← hcur2]
  unfold insF at hf22
  go_enter hf22, Body2.n22_ntmps ρ
  go_wp2_with (simp only [hov])
  go_region_law_o (refine step_copy_runI rfl _ _ (ρ.t 24) (ρ.t 24) rfl _ _ (by simp [Act.eval, Act.put]) (by simp [Act.eval, Act.put]) (hcp1 _ _ _) ?_)
  go_wp2_with (at_builtin; refine wpList_copy_runI _ rfl _ _ (ρ.t 24) (ρ.t 24) rfl _ _ rfl rfl (hcp2 _ _) ?_)
  go_ret
  have hlen : cur.toList.length = c * s := by rw [Array.length_toList]; exact hcs
  have q1 : cur1.toList.take (i * s) = cs.take (i * s) := by
    rw [hcur1, List.append_assoc, List.take_append_of_le_length (by rw [List.length_take]; omega), List.take_take, ← htk, List.take_take]
    congr 1
    omega
  have q2 : cur1.toList.drop (i * s + s) = cs.drop (i * s) ++ cur.toList.drop (i * s + s + (cs.drop (i * s)).length) := by
    rw [hcur1, List.append_assoc, List.drop_left' (by rw [List.length_take]; omega)]
  rw [q1, hvl, q2] at hcur2
  have hl1 : (cs.take (i * s)).length = i * s := by rw [List.length_take]; omega
  refine ⟨rfl, cur2, setRow_setRow _ _ _ _, ?_, ?_⟩
  · rw [← Array.length_toList, hcur2]
    simp only [List.length_append, hl1, hvl, hdl, List.length_drop, hlen]
    omega
  · rw [hcur2, ← List.append_assoc (cs.take (i * s) ++ vs), List.take_left' (by simp only [List.length_append, hl1, hvl, hdl]; omega)]
set_option maxHeartbeats 4000000 in
set_option maxRecDepth 100000 in
theorem ins_end {s by_ : Nat} {z : Value} (L : InsL P ρ s by_ z) (a : Option Addr) (n c vb vc : Nat) (w w' : World) (v' : Value)
    (hr : ∀ ty, (Builtin.append_ #[ρ.t 24, ρ.t 24] ty #[.slice a n c, .slice (some ⟨vb, 0, none⟩) 1 vc]).run P w = .ok v' w') (hc : n ≤ c) (ha : a = none ∨ ∃ b, a = some ⟨b, 0, none⟩) (h0 : a = none → n = 0 ∧ c = 0) :
    Calls P (ρ.f 22) #[.slice a n c, .int .i64 n, .slice (some ⟨vb, 0, none⟩) 1 vc] w fun e w2 => e = .returned v' ∧ w2 = w' := by
  obtain ⟨nm, ta, hf22⟩ := L.f22
  have t3 := L.t3; have a3 := L.a3; have t4 := L.t4; have a4 := L.a4; have z9 := L.z9; have t24 := L.t24; have a24 := L.a24
  have u3 := run_underlying L.t3; have u4 := run_underlying L.t4; have u24 := run_underlying L.t24
  have mixed := L.mixed
  unfold insF at hf22
  go_enter hf22, Body2.n22_ntmps ρ
  rcases ha with rfl | ⟨b, rfl⟩
  · obtain ⟨rfl, rfl⟩ := h0 rfl
    go_wp2_with (at_builtin; refine Lib.wpList_append_run _ rfl _ _ _ _ rfl _ _ rfl rfl _ _ (hr _) ?_)
    go_ret
    exact ⟨rfl, rfl⟩
  · go_wp2_with (at_builtin; refine Lib.wpList_append_run _ rfl _ _ _ _ rfl _ _ rfl rfl _ _ (hr _) ?_)
    all_goals (go_ret; exact ⟨rfl, rfl⟩)
set_option maxHeartbeats 4000000 in
set_option maxRecDepth 100000 in
theorem ins_grow {s by_ : Nat} {z : Value} (L : InsL P ρ s by_ z) (hs : 0 < s) (b n c i vb vc T Tv : Nat) (cur cv : Array Value) (cs vs : List Value) (w : World) (hi : i < n) (hnc : n ≤ c) (hroom : c < n + 1) (hbig : (n + 1) * by_ ≤ 140737488355328) (h63 : n + 1 ≤ maxLen)
    (hg : w.heap[b]? = some (.cells cur T (0, 0))) (hcs : cur.size = c * s) (hcl : cs.length = n * s) (htk : cur.toList.take (n * s) = cs) (hgv : w.heap[vb]? = some (.cells cv Tv (0, 0))) (hvt : cv.toList.take s = vs) (hvl : vs.length = s)
    (h1c : ∀ v ∈ cs, v.oneCell' = true) (h1v : ∀ v ∈ vs, v.oneCell' = true) :
    Calls P (ρ.f 22) #[.slice (some ⟨b, 0, none⟩) n c, .int .i64 i, .slice (some ⟨vb, 0, none⟩) 1 vc] w fun e w' =>
      ∃ G, e = .returned (.slice (some ⟨w.heap.size, 0, none⟩) (n + 1) G) ∧ n + 1 ≤ G ∧ G ≤ maxLen ∧ w.grownBy w' (some b) ∧ w'.heap.size = w.heap.size + 1 ∧ ∃ cur' : Array Value, w'.heap[w.heap.size]? = some (.cells cur' (ρ.t 9) (0, 0)) ∧ cur'.size = G * s ∧ cur'.toList.take ((n + 1) * s) = cs.take (i * s) ++ vs ++ cs.drop (i * s) := by
  obtain ⟨nm, ta, hf22⟩ := L.f22
  have t3 := L.t3; have a3 := L.a3; have t4 := L.t4; have a4 := L.a4; have z9 := L.z9; have t24 := L.t24; have a24 := L.a24
  have u3 := run_underlying L.t3; have u4 := run_underlying L.t4; have u24 := run_underlying L.t24
  have mixed := L.mixed
  obtain ⟨i0, hi0, hz0, hzs, hzb⟩ := info_parts L.i9
  have hzz := L.zs
  have hsz : (P.info? (ρ.t 9)).map (·.size) = some s := by rw [hi0]; simp [hzs]
  have hz2 : ¬ ((i : Int) = (n : Int)) := by omega
  have hz3 : (c : Int) < (n : Int) + 1 := by omega
  have e1 : (i + 1) * s = i * s + s := by rw [Nat.add_mul, Nat.one_mul]
  have e2 : (n + 1) * s = n * s + s := by rw [Nat.add_mul, Nat.one_mul]
  have e3 : i * s + (n - i) * s = n * s := by rw [← Nat.add_mul]; congr 1; omega
  have hcurc : ∀ j v, cs[j]? = some v → cur[j]? = some v := fun j v hj => by
    have hlt := (List.getElem?_eq_some_iff.1 hj).1
    rw [← htk, List.getElem?_take, if_pos (by omega), Array.getElem?_toList] at hj
    exact hj
  have hcvc : ∀ j v, vs[j]? = some v → cv[j]? = some v := fun j v hj => by
    have hlt := (List.getElem?_eq_some_iff.1 hj).1
    rw [← hvt, List.getElem?_take, if_pos (by omega), Array.getElem?_toList] at hj
    exact hj
  have hbw : b < w.heap.size := (Array.getElem?_eq_some_iff.1 hg).1
  have hvw : vb < w.heap.size := (Array.getElem?_eq_some_iff.1 hgv).1
  have hdl : (cs.drop (i * s)).length = (n - i) * s := by rw [List.length_drop, hcl]; omega
  have hl1 : (cs.take (i * s)).length = i * s := by rw [List.length_take]; omega
  have hik : i + (n + 1 - i) = n + 1 := by omega
  have hold : (Builtin.firstCells i0.size i (.slice (some ⟨b, 0, none⟩) i c)).run P w.drew = .ok (cs.take (i * s)).toArray w.drew := by
    rw [hzs]
    exact run_firstCells_some w.drew s i ⟨b, 0, none⟩ i c (cs.take (i * s)) (by rw [hl1]) (fun j v hj => by
      rw [addr_add, Nat.zero_add, cell_cells (w := w.drew) hg]
      rw [List.getElem?_take] at hj
      split at hj
      · exact hcurc j v hj
      · cases hj)
  have hkk : (n : Int) + 1 - (i : Int) = ((n + 1 - i : Nat) : Int) := by omega
  obtain ⟨G, hG⟩ : ∃ G, grownCap w (n + 1) c (ρ.t 9) = G := ⟨_, rfl⟩
  obtain ⟨ROW, hROW⟩ : ∃ ROW : Array Value, (cs.take (i * s)).toArray ++ Builtin.zeroCells z.cells (n + 1 - i) ++ Builtin.zeroCells z.cells (G - (n + 1)) = ROW := ⟨_, rfl⟩
  have hGn : n + 1 ≤ G := by rw [← hG]; exact grownCap_ge w _ _ _
  have hGm : G ≤ maxLen := by rw [← hG]; exact grownCap_le_maxLen w _ _ _ h63
  have hG63 : G ≤ 9223372036854775807 := by unfold maxLen at hGm; omega
  have hrz : ∀ ty, (Builtin.append_ #[(ρ.t 24), (ρ.t 3)] ty #[.slice (some ⟨b, 0, none⟩) i c, .int .i64 ((n : Int) + 1 - (i : Int))]).run P w =
      .ok (.slice (some ⟨w.heap.size, 0, none⟩) (n + 1) G) (w.drew.alloc (.cells ROW (ρ.t 9))) := fun ty => by
    have h := Lib.run_append_grow_zeros w (ρ.t 24) (ρ.t 3) ty (ρ.t 9) i0 _ .i64 .i64 L.t24 L.t3 hi0 hz0 (some ⟨b, 0, none⟩) i c (cs.take (i * s)) hold (n + 1 - i) (by omega) (by omega) (by omega) (by unfold maxLen at h63; omega) (by rw [hzb]; exact Nat.le_trans (Nat.mul_le_mul_right by_ (by omega : n + 1 - i ≤ n + 1)) (by omega)) (by rw [hzb, hik]; exact growslice_fits hroom hbig)
    rw [hik, hG, hROW] at h
    rw [hkk]
    exact h
  have hRl : ROW.size = G * s := by
    rw [← hROW]
    simp only [Array.size_append, List.size_toArray, hl1, size_zeroCells, hzz]
    rw [← Nat.add_mul, ← Nat.add_mul]
    congr 1
    omega
  have hRt : ROW.toList.take (i * s) = cs.take (i * s) := by
    rw [← hROW]
    simp only [Array.toList_append, List.append_assoc]
    rw [List.take_left' hl1]
  have hGs : (n + 1) * s ≤ G * s := Nat.mul_le_mul_right s hGn
  obtain ⟨N, hN⟩ : ∃ N, w.heap.size = N := ⟨_, rfl⟩
  rw [hN] at hrz hbw hvw ⊢
  have hNs : ∀ k, k ≠ N → k < N + 1 → k < N := fun k h1 h2 => by omega
  obtain ⟨W1, hW1⟩ : ∃ W1, w.drew.alloc (.cells ROW (ρ.t 9)) = W1 := ⟨_, rfl⟩
  rw [hW1] at hrz
  have hWh : W1.heap = w.heap.push (.cells ROW (ρ.t 9) (0, 0)) := by rw [← hW1]; rfl
  have hWos : W1.os = w.os ∧ W1.tape = w.tape ∧ W1.output = w.output := by rw [← hW1]; exact ⟨rfl, rfl, rfl⟩
  have hWs : W1.heap.size = N + 1 := by rw [hWh, Array.size_push, hN]
  have hWN : W1.heap[N]? = some (.cells ROW (ρ.t 9) (0, 0)) := by rw [hWh, Array.getElem?_push, if_pos hN.symm]
  have hWo : ∀ k, k < N → W1.heap[k]? = w.heap[k]? := fun k hk => by rw [hWh, Array.getElem?_push, if_neg (by omega)]
  have hmin2 : Nat.min 1 (n + 1 - i) = 1 := by simp only [Nat.min_def]; split <;> omega
  have hmin3 : Nat.min (n - i) (n - i) = n - i := Nat.min_self _
  obtain ⟨curA, hcurA⟩ : ∃ curA : Array Value, curA.toList = ROW.toList.take (i * s) ++ vs ++ ROW.toList.drop (i * s + vs.length) := ⟨(ROW.toList.take (i * s) ++ vs ++ ROW.toList.drop (i * s + vs.length)).toArray, by simp⟩
  have e5 : i * s ≤ n * s := Nat.mul_le_mul_right s (by omega)
  have hszA : curA.size = G * s := by
    rw [← Array.length_toList, hcurA]
    simp only [List.length_append, List.length_take, List.length_drop, Array.length_toList, hvl, hRl]
    omega
  obtain ⟨W2, hW2⟩ : ∃ W2, W1.setRow N curA = W2 := ⟨_, rfl⟩
  have hcpA : ∀ (ty dc : Nat), (Builtin.copy_ #[(ρ.t 24), (ρ.t 24)] ty #[.slice (some ⟨N, i * s, none⟩) (n + 1 - i) dc, .slice (some ⟨vb, 0, none⟩) 1 vc]).run P W1 = .ok (goInt (1 : Nat)) W2 := fun ty dc => by
    have h := run_copy_rowN (P := P) W1 (ρ.t 24) (ρ.t 24) ty (ρ.t 9) N (i * s) (n + 1 - i) dc s ⟨vb, 0, none⟩ 1 vc ROW (ρ.t 9) vs L.t24 hsz hWN (by rw [hmin2, Nat.one_mul]; exact hvl)
      (fun j v hj => by rw [addr_add, cell_cells ((hWo vb hvw).trans hgv), Nat.zero_add]; exact hcvc j v hj) (by rw [hvl, hRl]; omega) h1v
    rw [hmin2] at h
    rw [h, ← hcurA, ← hW2]
  have hW2N : W2.drew.heap[N]? = some (.cells curA (ρ.t 9) (0, 0)) := by rw [← hW2]; exact setRow_heap W1 N ROW curA _ _ hWN
  have hW2o : ∀ k, k < N → W2.drew.heap[k]? = w.heap[k]? := fun k hk => by
    have : W2.drew.heap = W2.heap := rfl
    rw [this, ← hW2]
    exact (setRow_other W1 N k _ (by omega)).trans (hWo k hk)
  have hW2s : W2.drew.heap.size = N + 1 := by
    have : W2.drew.heap = W2.heap := rfl
    rw [this, ← hW2, ← hWs]; simp [World.setRow]
  have hW2os : W2.drew.os = w.os ∧ W2.drew.tape = w.tape ∧ W2.drew.output = w.output := by rw [← hW2]; exact hWos
  obtain ⟨curB, hcurB⟩ : ∃ curB : Array Value, curB.toList = curA.toList.take (i * s + s) ++ cs.drop (i * s) ++ curA.toList.drop (i * s + s + (cs.drop (i * s)).length) := ⟨(curA.toList.take (i * s + s) ++ cs.drop (i * s) ++ curA.toList.drop (i * s + s + (cs.drop (i * s)).length)).toArray, by simp⟩
  have hcpB : ∀ (ty dc sc : Nat), (Builtin.copy_ #[(ρ.t 24), (ρ.t 24)] ty #[.slice (some ⟨N, i * s + s, none⟩) (n - i) dc, .slice (some ⟨b, i * s, none⟩) (n - i) sc]).run P W2.drew = .ok (goInt (n - i : Nat)) (W2.drew.setRow N curB) := fun ty dc sc => by
    have h := run_copy_rowN (P := P) W2.drew (ρ.t 24) (ρ.t 24) ty (ρ.t 9) N (i * s + s) (n - i) dc s ⟨b, i * s, none⟩ (n - i) sc curA (ρ.t 9) (cs.drop (i * s)) L.t24 hsz hW2N (by rw [hmin3]; exact hdl)
      (fun j v hj => by rw [addr_add, cell_cells ((hW2o b hbw).trans hg)]; exact hcurc _ _ (by rwa [List.getElem?_drop] at hj)) (by rw [hdl, hszA]; omega) (fun v hv => h1c v (List.mem_of_mem_drop hv))
    rw [hmin3] at h
    rw [h, ← hcurB]
  have hfin : w.grownBy (W2.drew.setRow N curB) (some b) ∧ (W2.drew.setRow N curB).heap.size = N + 1 ∧ ∃ cur' : Array Value, (W2.drew.setRow N curB).heap[N]? = some (.cells cur' (ρ.t 9) (0, 0)) ∧ cur'.size = G * s ∧ cur'.toList.take ((n + 1) * s) = cs.take (i * s) ++ vs ++ cs.drop (i * s) := by
    have hsz2 : (W2.drew.setRow N curB).heap.size = N + 1 := by rw [← hW2s]; simp [World.setRow]
    refine ⟨⟨hW2os.1, hW2os.2.1, hW2os.2.2, by rw [hsz2, hN]; omega, fun k hk _ => (setRow_other W2.drew N k _ (by omega)).trans (hW2o k (by omega))⟩, hsz2, curB, setRow_heap W2.drew N curA curB _ _ hW2N, ?_, ?_⟩
    · rw [← Array.length_toList, hcurB]
      simp [hdl, hszA]
      omega
    · have hAl : curA.toList.length = G * s := by rw [Array.length_toList]; exact hszA
      have q1 : curA.toList.take (i * s + s) = cs.take (i * s) ++ vs := by
        rw [hcurA, hRt, List.take_left' (by simp only [List.length_append, hl1, hvl])]
      rw [hcurB, q1, List.take_left' (by simp only [List.length_append, hl1, hvl, hdl]; omega)]
  have hw1 : IntKind.i64.wrap ((i : Int) + 1) = (i : Int) + 1 := by rw [IntKind.wrap_i64]; unfold maxLen at h63; omega
  have hw2 : IntKind.i64.wrap ((n : Int) + 1) = (n : Int) + 1 := by rw [IntKind.wrap_i64]; unfold maxLen at h63; omega
  have hw3 : IntKind.i64.wrap ((n : Int) + 1 - (i : Int)) = (n : Int) + 1 - (i : Int) := by rw [IntKind.wrap_i64]; unfold maxLen at h63; omega
  have hb1 : (0 : Int) ≤ (i : Int) + 1 := by omega
  have hin : i ≤ n := by omega
  have htn : ((i : Int) + 1).toNat = i + 1 := by omega
  have hb3 : (i : Int) ≤ (n : Int) + 1 := by omega
  have hb5 : (i : Int) ≤ (n : Int) := by omega
  have hGi : ¬ (G = i) := by omega
  have hGim : ¬ (G = i + 1) := by omega
  have hci : ¬ (c = i) := by omega
  clear hkk hik hold hROW hG hW1 hW2 hcurA hcurB hWh hWs hWN hWo hW2N hW2o hW2s hW2os hWos hszA hRl hRt hNs hl1 hdl e1 e2 e3 e5 hGs hN
  unfold insF at hf22
  go_enter hf22, Body2.n22_ntmps ρ
  go_wp2_with (first
    | (at_builtin; refine Lib.wpList_append_run _ rfl _ _ _ _ rfl _ _ rfl rfl _ _ (hrz _) ?_)
    | (at_builtin; refine wpList_copy_runI _ rfl _ _ (ρ.t 24) (ρ.t 24) rfl _ _ rfl rfl (hcpA _ _) ?_))
  go_region_law_o (refine step_copy_runI rfl _ _ (ρ.t 24) (ρ.t 24) rfl (.slice (some ⟨N, i * s + s, none⟩) (n - i) (G - (i + 1))) (.slice (some ⟨b, i * s, none⟩) (n - i) (c - i)) (by simp [Act.eval, Act.put, Nat.add_mul]) (by simp [Act.eval, Act.put]) (hcpB (ρ.t 3) (G - (i + 1)) (c - i)) ?_)
  go_wp2
  go_ret
  exact ⟨G, rfl, hGn, hGm, hfin⟩
def InsC (P : Program) (f s T by_ : Nat) : Prop :=
  ∀ (w : World) (v : Value) (n : Nat) (xs : List Value) (i vb vc : Nat) (cv : Array Value) (Tv : TypeId) (vs : List Value), w.ownsRow 0 T s v n xs → (∀ u ∈ xs, u.oneCell' = true) → i ≤ n → (n + 1) * by_ ≤ 140737488355328 → n + 1 ≤ maxLen →
    w.heap[vb]? = some (.cells cv Tv (0, 0)) → cv.toList.take s = vs → vs.length = s → (∀ u ∈ vs, u.oneCell' = true) → blk v ≠ some vb →
    Calls P f #[v, .int .i64 i, .slice (some ⟨vb, 0, none⟩) 1 vc] w fun e w' => ∃ v', e = .returned v' ∧ w'.ownsRow 0 T s v' (n + 1) (xs.take (i * s) ++ vs ++ xs.drop (i * s)) ∧ w.grownBy w' (blk v) ∧ ∀ b, blk v' = some b → b < w'.heap.size ∧ (w.heap.size ≤ b ∨ blk v = some b)
theorem insC_of {s by_ : Nat} {z : Value} (L : InsL P ρ s by_ z) (hs : 0 < s) : InsC P (ρ.f 22) s (ρ.t 9) by_ := by
  intro w v n xs i vb vc cv Tv vs hown h1x hi hbig h63 hgv hvt hvl h1v hne
  obtain ⟨i0, hi0, hz0, hzs, hzb⟩ := info_parts L.i9
  have hnews : ∀ (j : Nat) (u : Value), vs[j]? = some u → w.cell? ((⟨vb, 0, none⟩ : Addr).add j) = some u := fun j u hj => by
    have hlt := (List.getElem?_eq_some_iff.1 hj).1
    rw [← hvt, List.getElem?_take, if_pos (by omega), Array.getElem?_toList] at hj
    rw [addr_add, cell_cells hgv, Nat.zero_add]; exact hj
  by_cases hin : i = n
  · subst hin
    have hxl : xs.length = i * s := hown.1
    rw [show xs.take (i * s) ++ vs ++ xs.drop (i * s) = xs ++ vs by rw [List.take_of_length_le (by omega), List.drop_of_length_le (by omega), List.append_nil]]
    obtain ⟨v', w', h2, h3, h4, h5⟩ := run_append_mine (P := P) w (ρ.t 24) 0 (ρ.t 9) i0 z s by_ L.t24 hi0 hz0 hzs hzb L.zs hs v i xs hown ⟨vb, 0, none⟩ 1 vc vs (by rw [Nat.one_mul]; exact hvl) hnews h1v h63 hbig
    rcases hown.2 with ⟨rfl, rfl⟩ | ⟨g, cap, cur, rfl, _, hg, hnc, hcm, hcs, htk⟩
    · refine (ins_end L none 0 0 vb vc w w' v' (fun ty => h2) (Nat.le_refl _) (.inl rfl) (fun _ => ⟨rfl, rfl⟩)).mono ?_
      rintro e w2 ⟨rfl, rfl⟩
      exact ⟨v', rfl, h3, h4, h5⟩
    · refine (ins_end L (some ⟨g, 0, none⟩) i cap vb vc w w' v' (fun ty => h2) hnc (.inr ⟨g, rfl⟩) (fun h => by cases h)).mono ?_
      rintro e w2 ⟨rfl, rfl⟩
      exact ⟨v', rfl, h3, h4, h5⟩
  · rcases hown.2 with ⟨rfl, rfl⟩ | ⟨g, cap, cur, rfl, _, hg, hnc, hcm, hcs, htk⟩
    · omega
    · have hvg : vb ≠ g := fun h => hne (by rw [h]; rfl)
      by_cases hroom : n + 1 ≤ cap
      · refine (ins_shift L hs g n cap i vb vc (ρ.t 9) Tv cur cv xs vs w (by omega) hroom (by unfold maxLen at hcm; omega) hvg hg hcs hown.1 htk hgv hvt hvl h1x h1v).mono ?_
        rintro e w' ⟨rfl, cur', rfl, k1, k2⟩
        have hdw : w.drew.heap = w.heap := rfl
        have hsz : (w.drew.setRow g cur').heap.size = w.heap.size := by simp [World.setRow, hdw]
        refine ⟨_, rfl, ⟨?_, .inr ⟨g, cap, cur', rfl, Nat.zero_le _, setRow_heap w.drew g cur cur' _ _ hg, hroom, hcm, k1.trans hcs, k2⟩⟩, ⟨rfl, rfl, rfl, by rw [hsz]; exact Nat.le_refl _, fun k hk hne2 => setRow_other w.drew g k _ (fun h => hne2 (by rw [h]; rfl))⟩, fun b hb => ?_⟩
        · have e1 : i * s ≤ n * s := Nat.mul_le_mul_right s hi
          have hxl : xs.length = n * s := hown.1
          simp only [List.length_append, List.length_take, List.length_drop, hvl, hxl]
          rw [Nat.add_mul, Nat.one_mul]
          omega
        · refine ⟨?_, .inr hb⟩
          simp [blk] at hb
          subst hb
          rw [hsz]; exact (Array.getElem?_eq_some_iff.1 hg).1
      · refine (ins_grow L hs g n cap i vb vc (ρ.t 9) Tv cur cv xs vs w (by omega) hnc (by omega) hbig h63 hg hcs hown.1 htk hgv hvt hvl h1x h1v).mono ?_
        rintro e w' ⟨G, rfl, k1, k2, k3, k4, cur', k5, k6, k7⟩
        refine ⟨_, rfl, ⟨?_, .inr ⟨w.heap.size, G, cur', rfl, Nat.zero_le _, k5, k1, k2, k6, k7⟩⟩, k3, fun b hb => ?_⟩
        · have e1 : i * s ≤ n * s := Nat.mul_le_mul_right s hi
          have hxl : xs.length = n * s := hown.1
          simp only [List.length_append, List.length_take, List.length_drop, hvl, hxl]
          rw [Nat.add_mul, Nat.one_mul]
          omega
        · simp [blk] at hb
          subst hb
          exact ⟨by omega, .inl (Nat.le_refl _)⟩
end
def insAt {α : Type} (l : List α) (i : Nat) (x : α) : List α := l.take i ++ [x] ++ l.drop i
theorem insAt_len {α : Type} (l : List α) (i : Nat) (x : α) (h : i ≤ l.length) : (insAt l i x).length = l.length + 1 := by
  unfold insAt; simp only [List.length_append, List.length_take, List.length_drop, List.length_cons, List.length_nil]; omega
theorem insAt_get {α : Type} (l : List α) (i : Nat) (x : α) (h : i ≤ l.length) (j : Nat) : (insAt l i x)[j]? = if j < i then l[j]? else if j = i then some x else l[j - 1]? := by
  unfold insAt
  have h1 : (l.take i).length = i := by rw [List.length_take]; omega
  rw [List.append_assoc]
  by_cases a : j < i
  · rw [if_pos a, List.getElem?_append_left (by omega), List.getElem?_take, if_pos a]
  · rw [if_neg a, List.getElem?_append_right (by omega), h1]
    by_cases b : j = i
    · rw [if_pos b, b, Nat.sub_self]; rfl
    · rw [if_neg b, List.getElem?_append_right (by simp; omega), List.getElem?_drop]
      congr 1
      simp; omega
theorem insAt_map {α β : Type} (f : α → β) (l : List α) (i : Nat) (x : α) : (insAt l i x).map f = insAt (l.map f) i (f x) := by
  unfold insAt; simp [List.map_take, List.map_drop]
section
variable {Γ : Ctx} {σ : St} {ρ : Nat → Value} {a : Act} {w : World}
theorem ok_ins (I : Iv Γ σ ρ a w) {o : Oper} {f : FuncId} {fn : Func} {x y z : Operand} {ts : Array TypeId} {T T2 k k2 d s by_ p : Nat} {l : List SV} {el : SV} {K : St → Prop}
    (ho : o.op = .call { callee := .value (.func f), args := #[x, y, z], argTypes := ts }) (hd : o.dst = some d) (hdn : d < Γ.n) (hf : Γ.P.funcs[f]? = some fn) (hname : (fn.name == "runtime.NumGoroutine") = false) (hb : fn.body.isNone = false)
    (hx : σ.ev x = .own k) (hk : σ.h.lookup k = some (.row s T l)) (hy : σ.ev y = .sv (.raw (.int .i64 (p : Int)))) (hz : σ.ev z = .own k2) (hk2 : σ.h.lookup k2 = some (.row s T2 [el])) (hkk : k ≠ k2) (hp : p ≤ l.length)
    (h1 : ∀ q ∈ l, (∃ c, q = .agg c) ∨ q.one = true) (h1e : (∃ c, el = .agg c) ∨ el.one = true) (hbig : (l.length + 1) * by_ ≤ 140737488355328) (h63 : l.length + 1 ≤ maxLen) (hfr : σ.free d = true) (hi : Γ.inn d = none) (hc : InsC Γ.P f s T by_)
    (hK : K ⟨(d, .own d) :: σ.t, ins d (.row s T (insAt l p el)) (ins d (.row s T l) (dropH k σ.h))⟩) : XOk Γ a w o False K := by
  have hX : a.eval x = ρ k := by have := I.ev x; rw [hx] at this; exact this
  have hZ : a.eval z = ρ k2 := by have := I.ev z; rw [hz] at this; exact this
  have hY : a.eval y = .int .i64 (p : Int) := by have := I.ev y; rw [hy] at this; exact rep_raw' this
  have hrun : (execOp a.eval o).run Γ.P w = .ok (.enter f #[ρ k, .int .i64 (p : Int), ρ k2]) w := by
    have hF : a.eval (.func f) = .func (.func f) #[] #[] := rfl
    simp [execOp, ho, resolve, hF, Deferred.ofValue, invoke, run_callFunc hf hname hb, hX, hY, hZ]
  obtain ⟨f1, f2⟩ := free_rekey (k := k) (e := .row s T l) hfr
  have I2 := I.rekey hfr hk hi
  have hl2 : (ins d (.row s T l) (dropH k σ.h)).lookup d = some (.row s T l) := by rw [lookup_ins, if_pos rfl]
  obtain ⟨hs0, xs, vals, hown, hrep⟩ := I.ent k _ hk
  obtain ⟨_, xs2, vals2, hown2, hrep2⟩ := I.ent k2 _ hk2
  have hx1 := row_one hs0 hown.1 hrep h1
  have hx2 := row_one hs0 hown2.1 hrep2 (fun q hq => by simp at hq; subst hq; exact h1e)
  obtain ⟨e1, e2, e3⟩ := hrep2 0 el rfl
  rcases hown2.2 with ⟨_, h⟩ | ⟨vb, vc, cv, hv2, _, hg2, hcap2, hcm2, hcs2, htk2⟩
  · simp at h
  · have hbk2 : blk (ρ k2) = some vb := by rw [hv2]; rfl
    have hxl2 : xs2.length = s := by have := hown2.1; simpa using this
    have hne : blk (ρ k) ≠ some vb := fun h => hkk (I.sep k k2 _ _ vb hk hk2 h hbk2)
    unfold XOk oN
    rw [hrun, hv2]
    refine (hc w (ρ k) l.length xs p vb vc cv T2 xs2 hown hx1 hp hbig h63 hg2 (by rw [← htk2]; simp) hxl2 hx2 hne).mono ?_
    rintro e w' ⟨v', he, hrow, hgr, hnew⟩
    have hkp : Kp w (Own Γ σ.h ρ) w' (Own Γ (ins d (.row s T (insAt l p el)) (ins d (.row s T l) (dropH k σ.h))) (upd (upd ρ d (ρ k)) d v')) := by
      intro b hlt hno
      refine ⟨hgr.block b hlt fun hbk => hno (.inr ⟨k, _, hk, hbk.symm⟩), ?_⟩
      rintro (hO | ⟨k1, e1, hk1, hb1⟩)
      · exact hno (.inl hO)
      · rw [lookup_ins] at hk1
        by_cases hq : k1 = d
        · subst hq
          rw [upd_at] at hb1
          rcases (hnew b hb1).2 with h | h
          · omega
          · exact hno (.inr ⟨k, _, hk, h⟩)
        · rw [if_neg hq, lookup_ins, if_neg hq] at hk1
          rw [upd_ne _ _ hq, upd_ne _ _ hq] at hb1
          exact hno (.inr ⟨k1, e1, (dropH_lookup hk1).1, hb1⟩)
    refine ⟨_, he, _, hK, ⟨upd (upd ρ d (ρ k)) d v', ?_⟩, fun h => h.elim⟩
    have hxl : xs.length = l.length * s := hown.1
    have hps : p * s ≤ l.length * s := Nat.mul_le_mul_right s hp
    have I3 := I2.heap (t' := σ.t) (k := d) (e := .row s T (insAt l p el)) (v' := v') (w' := w') (fun t lv h => .inl h)
      (.inr ⟨f1, f2⟩) ⟨hgr.os, hgr.tape, hgr.output, hgr.size⟩ (fun b hb hne2 => hgr.block b hb fun h => hne2 _ hl2 (by rw [upd_at]; exact h.symm))
      (fun b hb => ⟨(hnew b hb).1, (hnew b hb).2.imp id fun h => ⟨_, hl2, by rw [upd_at]; exact h⟩⟩)
      (fun v h => by rw [hi] at h; cases h)
      ⟨hs0, xs.take (p * s) ++ xs2 ++ xs.drop (p * s), fun j => if j < p then vals j else if j = p then vals2 0 else vals (j - 1), by rw [upd_at, insAt_len _ _ _ hp]; exact hrow, fun j q hj => by
        rw [insAt_get _ _ _ hp] at hj
        have ht : (xs.take (p * s)).length = p * s := by rw [List.length_take]; omega
        by_cases c1 : j < p
        · simp only [if_pos c1] at hj ⊢
          obtain ⟨r1, r2, r3⟩ := hrep j q hj
          refine ⟨r1.kp hkp, r2, fun m u hu => ?_⟩
          have hm : m < s := by have := (Array.getElem?_eq_some_iff.1 hu).1; omega
          have h4 := r3 m u hu
          have h5 : (j + 1) * s ≤ p * s := Nat.mul_le_mul_right s c1
          rw [Nat.add_mul, Nat.one_mul] at h5
          rw [List.append_assoc, List.getElem?_append_left (by omega), List.getElem?_take, if_pos (by omega)]; exact h4
        · by_cases c2 : j = p
          · subst c2
            simp only [if_neg c1, if_true, Option.some.injEq] at hj ⊢
            subst hj
            refine ⟨e1.kp hkp, e2, fun m u hu => ?_⟩
            have hm : m < s := by have := (Array.getElem?_eq_some_iff.1 hu).1; omega
            have h4 := e3 m u hu
            rw [Nat.zero_mul, Nat.zero_add] at h4
            rw [List.append_assoc, List.getElem?_append_right (by omega), ht, List.getElem?_append_left (by omega)]
            rw [show j * s + m - j * s = m by omega]; exact h4
          · simp only [if_neg c1, if_neg c2] at hj ⊢
            obtain ⟨r1, r2, r3⟩ := hrep (j - 1) q hj
            refine ⟨r1.kp hkp, r2, fun m u hu => ?_⟩
            have h4 := r3 m u hu
            have h5 : (p + 1) * s ≤ j * s := Nat.mul_le_mul_right s (by omega)
            rw [Nat.add_mul, Nat.one_mul] at h5
            have h6 : j * s = (j - 1) * s + s := by rw [← Nat.succ_mul]; congr 1; omega
            rw [List.getElem?_append_right (by rw [List.length_append, ht, hxl2]; omega), List.length_append, ht, hxl2, List.getElem?_drop]
            rw [show p * s + (j * s + m - (p * s + s)) = (j - 1) * s + m by omega]; exact h4⟩
    rw [hd]
    exact I3.put (d := some d) (lv := .own d) (v := v') (by simpa using hdn) (upd_at _ _ _).symm
end
section
variable {Γ : Ctx} {ops : Array Oper} {l : List (Oper × Nat)} {t : List (Nat × LV)} {h : List (Nat × Ent)} {K : St → Prop} {c d ty : Nat} {ps : String} {af : Array Edge} {x y z : Operand}
theorem q_ins {f k k2 s T T2 by_ p : Nat} {ts : Array Nat} {r : List SV} {el : SV} (hc : InsC Γ.P f s T by_) (hcl : Calb Γ.P f) (hx : St.ev ⟨t, h⟩ x = .own k) (hh : h.lookup k = some (.row s T r)) (hy : St.ev ⟨t, h⟩ y = .sv (.raw (.int .i64 (p : Int)))) (hz : St.ev ⟨t, h⟩ z = .own k2) (hk2 : h.lookup k2 = some (.row s T2 [el])) (hkk : k ≠ k2) (hp : p ≤ r.length)
    (h1 : ∀ q ∈ r, (∃ c, q = .agg c) ∨ q.one = true) (h1e : (∃ c, el = .agg c) ∨ el.one = true) (hbig : (r.length + 1) * by_ ≤ 140737488355328) (h63 : r.length + 1 ≤ maxLen) (hf : St.free ⟨t, h⟩ d = true) (hi : Γ.inn d = none)
    (hk : RunL Γ ops l ⟨(d, .own d) :: t, ins d (.row s T (insAt r p el)) (ins d (.row s T r) (dropH k h))⟩ K) :
    RunL Γ ops ((⟨some d, .call { callee := .value (.func f), args := #[x, y, z], argTypes := ts }, ty, ps, af, none⟩, 2) :: l) ⟨t, h⟩ K :=
  let ⟨_, hf', hname, hb⟩ := hcl
  run_x (ext := False) rfl (by omega) (fun h => (h rfl).elim) fun _ _ _ I hd => ok_ins I rfl rfl (by simpa [dstOk] using hd) hf' hname hb hx hh hy hz hk2 hkk hp h1 h1e hbig h63 hf hi hc hk
end
end Go.Abs

/- Rows of ours whose block is of any type: an append, an element put in. No condition. -/
namespace Go.Abs
open Go Go.RowKit Go.Eager Go.Shelf
set_option linter.unusedVariables false
set_option linter.unusedSimpArgs false
theorem run_append_roomA {P : Program} (w : World) (t ty e : TypeId) (T : TypeId) (i : TypeInfo) (ht : P.underlying t = some (.slice e)) (hi : P.info? e = some i)
    (g n cap : Nat) (cur : Array Value) (hg : w.heap[g]? = some (.cells cur T (0, 0))) (a : Addr) (m c : Nat) (news : List Value) (hl : news.length = m * i.size) (hnews : ∀ j u, news[j]? = some u → w.cell? (a.add j) = some u) (h1 : ∀ u ∈ news, u.oneCell' = true)
    (hroom : n + m ≤ cap) (hfit : n * i.size + news.length ≤ cur.size) :
    (Builtin.append_ #[t, t] ty #[.slice (some ⟨g, 0, none⟩) n cap, .slice (some a) m c]).run P w = .ok (.slice (some ⟨g, 0, none⟩) (n + m) cap) (w.setRow g (cur.toList.take (n * i.size) ++ news ++ cur.toList.drop (n * i.size + news.length)).toArray) := by
  have hf := run_firstCells_some (P := P) w i.size m a m c news hl hnews
  have hst := run_storeCells_at P g (n * i.size) T news 0 cur w hg (by simpa using hfit) h1
  simp only [Nat.add_zero] at hst
  simp [Builtin.append_, run_underlying ht, sizeOf, typeInfo, hi, Builtin.lenOf, hroom, hf, Addr.add_lit, hst]
theorem run_append_mineT {P : Program} (w : World) (t ty e : TypeId) (i : TypeInfo) (z : Value) (size bytes : Nat) (ht : P.underlying t = some (.slice e)) (hi : P.info? e = some i) (hz : i.zero = some z)
    (hsize : i.size = size) (hby : i.bytes = bytes) (hzs : z.cells.size = size) (hsz : 0 < size) (T : TypeId)
    (v : Value) (n : Nat) (xs : List Value) (hown : w.ownsRow 0 T size v n xs)
    (a : Addr) (m c : Nat) (news : List Value) (hl : news.length = m * size) (hnews : ∀ (j : Nat) (u : Value), news[j]? = some u → w.cell? (a.add j) = some u) (h1 : ∀ u ∈ news, u.oneCell' = true)
    (h63 : n + m ≤ maxLen) (hbytes : (n + m) * bytes ≤ 140737488355328) :
    ∃ v' w' T', (Builtin.append_ #[t, t] ty #[v, .slice (some a) m c]).run P w = .ok v' w' ∧ w'.ownsRow 0 T' size v' (n + m) (xs ++ news) ∧ w.grownBy w' (blk v) ∧
      ∀ b, blk v' = some b → b < w'.heap.size ∧ (w.heap.size ≤ b ∨ blk v = some b) := by
  have hxl : xs.length = n * size := hown.1
  have hlen : (xs ++ news).length = (n + m) * size := by rw [List.length_append, hxl, hl, Nat.add_mul]
  rcases hown.2 with ⟨rfl, rfl⟩ | ⟨g, cap, cur, rfl, hbg, hg, hnc, hcm, hcs, htake⟩
  · have hx : xs = [] := List.eq_nil_of_length_eq_zero (by simpa using hown.1)
    subst hx
    obtain ⟨v', w', h2, h3, h4, h5⟩ := run_append_mine (P := P) w t ty e i z size bytes ht hi hz hsize hby hzs hsz (.slice none 0 0) 0 [] (World.ownsRow_nil w 0 e size) a m c news hl hnews h1 h63 hbytes
    exact ⟨v', w', e, h2, h3, h4, h5⟩
  · by_cases hroom : n + m ≤ cap
    · subst hsize
      have hfit : n * i.size + news.length ≤ cur.size := by rw [hl, hcs, ← Nat.add_mul]; exact Nat.mul_le_mul_right _ hroom
      have hr := run_append_roomA (P := P) w t ty e T i ht hi g n cap cur hg a m c news hl hnews h1 hroom hfit
      generalize hcur : (cur.toList.take (n * i.size) ++ news ++ cur.toList.drop (n * i.size + news.length)).toArray = cur' at hr
      have htl : (cur.toList.take (n * i.size)).length = n * i.size := by rw [List.length_take, Array.length_toList]; omega
      have hsz' : cur'.size = cur.size := by
        rw [← hcur]
        simp only [List.size_toArray, List.length_append, htl, List.length_drop, Array.length_toList]
        omega
      have hw : (w.setRow g cur').heap.size = w.heap.size := by simp [World.setRow]
      refine ⟨_, _, T, hr, ⟨hlen, .inr ⟨g, cap, cur', rfl, Nat.zero_le _, setRow_heap w g cur cur' T _ hg, hroom, hcm, by rw [hsz', hcs], ?_⟩⟩, ⟨rfl, rfl, rfl, by rw [hw]; exact Nat.le_refl _, fun k hk hne2 => setRow_other w g k _ (fun h => hne2 (by rw [h]; rfl))⟩, fun b hb => ?_⟩
      · rw [← hcur, ← hlen, ← htake]
        simp only [List.append_assoc]
        rw [← List.append_assoc]
        exact List.take_left
      · refine ⟨?_, .inr hb⟩
        simp [blk] at hb
        subst hb
        rw [hw]; exact (Array.getElem?_eq_some_iff.1 hg).1
    · subst hsize hby
      have hr := run_append_grow (P := P) w t ty e i z ht hi hz ⟨g, 0, none⟩ n cap xs hown.1 (hown.cells (g := g) rfl) a m c news hl hnews (by omega) (by simp only [maxLen] at h63; omega) (growslice_fits (by omega) hbytes)
      have hge := grownCap_ge w (n + m) cap e
      have hcm2 : grownCap w (n + m) cap e ≤ maxLen := grownCap_le_maxLen w (n + m) cap e h63
      refine ⟨_, _, e, hr, ⟨hlen, .inr ⟨w.heap.size, _, _, rfl, Nat.zero_le _, heap_alloc_new w.drew _, hge, hcm2, ?_, ?_⟩⟩, ⟨rfl, rfl, rfl, by simp, fun k hk _ => heap_alloc_old w.drew _ hk⟩, fun b hb => ?_⟩
      · simp only [Array.size_append, List.size_toArray, size_zeroCells, hzs, hxl, hl, ← Nat.add_mul]
        congr 1
        omega
      · simp only [Array.toList_append, List.append_assoc]
        rw [← List.append_assoc, ← hlen]
        exact List.take_left
      · simp [blk] at hb
        subst hb
        exact ⟨by simp, .inl (Nat.le_refl _)⟩
section
variable {Γ : Ctx} {σ : St} {ρ : Nat → Value} {a : Act} {w : World}
theorem ok_append_atT (I : Iv Γ σ ρ a w) {o : Oper} {x y : Operand} {t e n by_ k d : Nat} {z : Value} {T : Nat} {l r : List SV} {K : St → Prop} (ho : o.op = .call { callee := .builtin .append, args := #[x, y], argTypes := #[t, t] })
    (hd : o.dst = some d) (hdn : d < Γ.n) (he : elOf Γ.P t = some (e, n)) (hz : zeroOf Γ.P e = some z) (hzn : z.cells.size = n) (hb : bytOf Γ.P e = some by_)
    (hX : a.eval x = ρ k) (hnm : ∀ t lv, σ.t.lookup t = some lv → lv.mentions k = false) (hk : σ.h.lookup k = some (.row n T l)) (hi : Γ.inn k = none) (hbox : ∀ k1 e1, k1 ≠ k → σ.h.lookup k1 = some e1 → e1.mentions k = false)
    (hy : σ.ev y = .sv (.sl n r)) (hr : r ≠ []) (h1 : ∀ s ∈ r, ((∃ c, s = .agg c) ∨ s.one = true)) (h63 : l.length + r.length ≤ maxLen) (hbytes : (l.length + r.length) * by_ ≤ 140737488355328)
    (hK : ∀ T', K ⟨(d, .own k) :: σ.t, ins k (.row n T' (l ++ r)) σ.h⟩) : XOk Γ a w o False K := by
  obtain ⟨hu, hs⟩ := elOf_spec he
  have hY := I.ev y
  rw [hy] at hY
  obtain ⟨hz0, xs, vals0, hown, hrep⟩ := I.ent k _ hk
  obtain ⟨b, off, c, hyv, news, vals1, n1, n2, n3, n4⟩ := news_of hY hr h1
  unfold zeroOf at hz
  unfold szOf at hs
  unfold bytOf at hb
  cases hinfo : Γ.P.info? e with
  | none => simp [hinfo] at hz
  | some i =>
    simp only [hinfo, Option.bind_some, Option.map_some, Option.some.injEq] at hz hs hb
    obtain ⟨v', w', T', h2, h3, h4, h5⟩ := run_append_mineT (P := Γ.P) w t o.type e i z n by_ hu hinfo hz hs hb hzn hz0 T (ρ k) l.length xs hown ⟨b, off, none⟩ r.length c news n1 n2 n3 h63 hbytes
    have run : (execOp a.eval o).run Γ.P w = .ok (.value v') w' := by
      simp [execOp, ho, resolve, invoke, builtin, hX, hyv, h2]
    unfold XOk oN
    rw [run]
    refine ⟨_, hK T', ⟨upd ρ k v', ?_⟩, fun h => h.elim⟩
    have kp : Kp w (Own Γ σ.h ρ) w' (Own Γ (ins k (.row n T' (l ++ r)) σ.h) (upd ρ k v')) := by
      intro b hlt hno
      refine ⟨h4.block b hlt fun hbk => hno (.inr ⟨k, _, hk, hbk.symm⟩), ?_⟩
      rintro (hO | ⟨k1, e1, hk1, hb1⟩)
      · exact hno (.inl hO)
      · rw [lookup_ins] at hk1
        by_cases hkk : k1 = k
        · subst hkk
          rw [upd_at] at hb1
          rcases (h5 b hb1).2 with h | h
          · omega
          · exact hno (.inr ⟨k1, _, hk, h⟩)
        · rw [if_neg hkk] at hk1
          rw [upd_ne _ _ hkk] at hb1
          exact hno (.inr ⟨k1, e1, hk1, hb1⟩)
    have I' := I.heap (t' := σ.t) (k := k) (e := .row n T' (l ++ r)) (v' := v') (w' := w') (fun t lv h => .inl h)
      (.inr ⟨hnm, hbox⟩) ⟨h4.os, h4.tape, h4.output, h4.size⟩ (fun b hlt hne => h4.block b hlt fun hbk => hne _ hk hbk.symm)
      (fun b hb => ⟨(h5 b hb).1, (h5 b hb).2.imp id fun h => ⟨_, hk, h⟩⟩) (by rw [hi]; intro v h; cases h) (by
        refine ⟨hz0, xs ++ news, fun i => if i < l.length then vals0 i else vals1 (i - l.length), ?_, ?_⟩
        · rw [upd_at, List.length_append]; exact h3
        · intro i s hs'
          have hxl : xs.length = l.length * n := hown.1
          by_cases hil : i < l.length
          · simp only [hil, if_true]
            rw [List.getElem?_append_left hil] at hs'
            obtain ⟨r1, r2, r3⟩ := hrep i s hs'
            refine ⟨r1.kp kp, r2, fun j u hu' => ?_⟩
            have hh := r3 j u hu'
            rw [List.getElem?_append_left (List.getElem?_eq_some_iff.1 hh).1]; exact hh
          · simp only [hil, if_false]
            rw [List.getElem?_append_right (by omega)] at hs'
            obtain ⟨r1, r2, r3⟩ := n4 _ s hs'
            refine ⟨r1.kp kp, r2, fun j u hu' => ?_⟩
            have hh := r3 j u hu'
            have hge : l.length * n ≤ i * n := Nat.mul_le_mul_right _ (by omega)
            rw [List.getElem?_append_right (by omega), hxl]
            rw [show i * n + j - l.length * n = (i - l.length) * n + j by rw [Nat.sub_mul]; omega]
            exact hh)
    have := I'.put (d := some d) (lv := .own k) (v := v') (by simpa using hdn) (upd_at ρ k v').symm
    rw [hd]
    exact this
theorem ok_appendT (I : Iv Γ σ ρ a w) {o : Oper} {x y : Operand} {t e n by_ k d : Nat} {z : Value} {T : Nat} {l r : List SV} {K : St → Prop} (ho : o.op = .call { callee := .builtin .append, args := #[x, y], argTypes := #[t, t] })
    (hd : o.dst = some d) (hdn : d < Γ.n) (he : elOf Γ.P t = some (e, n)) (hz : zeroOf Γ.P e = some z) (hzn : z.cells.size = n) (hb : bytOf Γ.P e = some by_)
    (hx : σ.ev x = .own k) (hk : σ.h.lookup k = some (.row n T l)) (hf : σ.free d = true) (hi : Γ.inn d = none)
    (hy : σ.ev y = .sv (.sl n r)) (hr : r ≠ []) (h1 : ∀ s ∈ r, ((∃ c, s = .agg c) ∨ s.one = true)) (h63 : l.length + r.length ≤ maxLen) (hbytes : (l.length + r.length) * by_ ≤ 140737488355328)
    (hK : ∀ T', K ⟨(d, .own d) :: σ.t, ins d (.row n T' (l ++ r)) (ins d (.row n T l) (dropH k σ.h))⟩) : XOk Γ a w o False K := by
  have hX : a.eval x = ρ k := by have := I.ev x; rw [hx] at this; exact this
  obtain ⟨f1, f2⟩ := free_rekey (k := k) (e := .row n T l) hf
  exact ok_append_atT (σ := ⟨σ.t, ins d (.row n T l) (dropH k σ.h)⟩) (I.rekey hf hk hi) (k := d) ho hd hdn he hz hzn hb (by rw [upd_at]; exact hX) f1 (by rw [lookup_ins, if_pos rfl]) hi f2 hy hr h1 h63 hbytes hK

end
section
variable {Γ : Ctx} {ops : Array Oper} {l : List (Oper × Nat)} {t : List (Nat × LV)} {h : List (Nat × Ent)} {K : St → Prop} {c d ty : Nat} {ps : String} {af : Array Edge} {x y : Operand}
theorem q_appT {S e n by_ k T : Nat} (z : Value) {r q : List SV} (he : elOf Γ.P S = some (e, n)) (hz : zeroOf Γ.P e = some z) (hzn : z.cells.size = n) (hb : bytOf Γ.P e = some by_)
    (hx : St.ev ⟨t, h⟩ x = .own k) (hh : h.lookup k = some (.row n T r)) (hf : St.free ⟨t, h⟩ d = true) (hi : Γ.inn d = none) (hy : St.ev ⟨t, h⟩ y = .sv (.sl n q)) (hq : q ≠ []) (h1 : ∀ s ∈ q, ((∃ c, s = .agg c) ∨ s.one = true)) (h63 : r.length + q.length ≤ maxLen) (hbytes : (r.length + q.length) * by_ ≤ 140737488355328)
    (hk : ∀ T', RunL Γ ops l ⟨(d, .own d) :: t, ins d (.row n T' (r ++ q)) (ins d (.row n T r) (dropH k h))⟩ K) :
    RunL Γ ops ((⟨some d, .call { callee := .builtin .append, args := #[x, y], argTypes := #[S, S] }, ty, ps, af, none⟩, 2) :: l) ⟨t, h⟩ K :=
  run_x (ext := False) rfl (by omega) (fun h => (h rfl).elim) fun _ _ _ I hd => ok_appendT I rfl rfl (by simpa [dstOk] using hd) he hz hzn hb hx hh hf hi hy hq h1 h63 hbytes hk
end
section
variable {P : Program} {ρ : Ren}
def InsCT (P : Program) (f s by_ : Nat) : Prop :=
  ∀ (w : World) (v : Value) (T n : Nat) (xs : List Value) (i vb vc : Nat) (cv : Array Value) (Tv : TypeId) (vs : List Value), w.ownsRow 0 T s v n xs → (∀ u ∈ xs, u.oneCell' = true) → i ≤ n → (n + 1) * by_ ≤ 140737488355328 → n + 1 ≤ maxLen →
    w.heap[vb]? = some (.cells cv Tv (0, 0)) → cv.toList.take s = vs → vs.length = s → (∀ u ∈ vs, u.oneCell' = true) → blk v ≠ some vb →
    Calls P f #[v, .int .i64 i, .slice (some ⟨vb, 0, none⟩) 1 vc] w fun e w' => ∃ v' T', e = .returned v' ∧ w'.ownsRow 0 T' s v' (n + 1) (xs.take (i * s) ++ vs ++ xs.drop (i * s)) ∧ w.grownBy w' (blk v) ∧ ∀ b, blk v' = some b → b < w'.heap.size ∧ (w.heap.size ≤ b ∨ blk v = some b)
theorem insCT_of {s by_ : Nat} {z : Value} (L : InsL P ρ s by_ z) (hs : 0 < s) : InsCT P (ρ.f 22) s by_ := by
  intro w v T n xs i vb vc cv Tv vs hown h1x hi hbig h63 hgv hvt hvl h1v hne
  obtain ⟨i0, hi0, hz0, hzs, hzb⟩ := info_parts L.i9
  have hnews : ∀ (j : Nat) (u : Value), vs[j]? = some u → w.cell? ((⟨vb, 0, none⟩ : Addr).add j) = some u := fun j u hj => by
    have hlt := (List.getElem?_eq_some_iff.1 hj).1
    rw [← hvt, List.getElem?_take, if_pos (by omega), Array.getElem?_toList] at hj
    rw [addr_add, cell_cells hgv, Nat.zero_add]; exact hj
  by_cases hin : i = n
  · subst hin
    have hxl : xs.length = i * s := hown.1
    rw [show xs.take (i * s) ++ vs ++ xs.drop (i * s) = xs ++ vs by rw [List.take_of_length_le (by omega), List.drop_of_length_le (by omega), List.append_nil]]
    obtain ⟨v', w', T', h2, h3, h4, h5⟩ := run_append_mineT (P := P) w (ρ.t 24) 0 (ρ.t 9) i0 z s by_ L.t24 hi0 hz0 hzs hzb L.zs hs T v i xs hown ⟨vb, 0, none⟩ 1 vc vs (by rw [Nat.one_mul]; exact hvl) hnews h1v h63 hbig
    rcases hown.2 with ⟨rfl, rfl⟩ | ⟨g, cap, cur, rfl, _, hg, hnc, hcm, hcs, htk⟩
    · refine (ins_end L none 0 0 vb vc w w' v' (fun ty => h2) (Nat.le_refl _) (.inl rfl) (fun _ => ⟨rfl, rfl⟩)).mono ?_
      rintro e w2 ⟨rfl, rfl⟩
      exact ⟨v', T', rfl, h3, h4, h5⟩
    · refine (ins_end L (some ⟨g, 0, none⟩) i cap vb vc w w' v' (fun ty => h2) hnc (.inr ⟨g, rfl⟩) (fun h => by cases h)).mono ?_
      rintro e w2 ⟨rfl, rfl⟩
      exact ⟨v', T', rfl, h3, h4, h5⟩
  · rcases hown.2 with ⟨rfl, rfl⟩ | ⟨g, cap, cur, rfl, _, hg, hnc, hcm, hcs, htk⟩
    · omega
    · have hvg : vb ≠ g := fun h => hne (by rw [h]; rfl)
      by_cases hroom : n + 1 ≤ cap
      · refine (ins_shift L hs g n cap i vb vc T Tv cur cv xs vs w (by omega) hroom (by unfold maxLen at hcm; omega) hvg hg hcs hown.1 htk hgv hvt hvl h1x h1v).mono ?_
        rintro e w' ⟨rfl, cur', rfl, k1, k2⟩
        have hdw : w.drew.heap = w.heap := rfl
        have hsz : (w.drew.setRow g cur').heap.size = w.heap.size := by simp [World.setRow, hdw]
        refine ⟨_, T, rfl, ⟨?_, .inr ⟨g, cap, cur', rfl, Nat.zero_le _, setRow_heap w.drew g cur cur' _ _ hg, hroom, hcm, k1.trans hcs, k2⟩⟩, ⟨rfl, rfl, rfl, by rw [hsz]; exact Nat.le_refl _, fun k hk hne2 => setRow_other w.drew g k _ (fun h => hne2 (by rw [h]; rfl))⟩, fun b hb => ?_⟩
        · have e1 : i * s ≤ n * s := Nat.mul_le_mul_right s hi
          have hxl : xs.length = n * s := hown.1
          simp only [List.length_append, List.length_take, List.length_drop, hvl, hxl]
          rw [Nat.add_mul, Nat.one_mul]
          omega
        · refine ⟨?_, .inr hb⟩
          simp [blk] at hb
          subst hb
          rw [hsz]; exact (Array.getElem?_eq_some_iff.1 hg).1
      · refine (ins_grow L hs g n cap i vb vc T Tv cur cv xs vs w (by omega) hnc (by omega) hbig h63 hg hcs hown.1 htk hgv hvt hvl h1x h1v).mono ?_
        rintro e w' ⟨G, rfl, k1, k2, k3, k4, cur', k5, k6, k7⟩
        refine ⟨_, _, rfl, ⟨?_, .inr ⟨w.heap.size, G, cur', rfl, Nat.zero_le _, k5, k1, k2, k6, k7⟩⟩, k3, fun b hb => ?_⟩
        · have e1 : i * s ≤ n * s := Nat.mul_le_mul_right s hi
          have hxl : xs.length = n * s := hown.1
          simp only [List.length_append, List.length_take, List.length_drop, hvl, hxl]
          rw [Nat.add_mul, Nat.one_mul]
          omega
        · simp [blk] at hb
          subst hb
          exact ⟨by omega, .inl (Nat.le_refl _)⟩
end
section
variable {Γ : Ctx} {σ : St} {ρ : Nat → Value} {a : Act} {w : World}
theorem ok_insT (I : Iv Γ σ ρ a w) {o : Oper} {f : FuncId} {fn : Func} {x y z : Operand} {ts : Array TypeId} {T T2 k k2 d s by_ p : Nat} {l : List SV} {el : SV} {K : St → Prop}
    (ho : o.op = .call { callee := .value (.func f), args := #[x, y, z], argTypes := ts }) (hd : o.dst = some d) (hdn : d < Γ.n) (hf : Γ.P.funcs[f]? = some fn) (hname : (fn.name == "runtime.NumGoroutine") = false) (hb : fn.body.isNone = false)
    (hx : σ.ev x = .own k) (hk : σ.h.lookup k = some (.row s T l)) (hy : σ.ev y = .sv (.raw (.int .i64 (p : Int)))) (hz : σ.ev z = .own k2) (hk2 : σ.h.lookup k2 = some (.row s T2 [el])) (hkk : k ≠ k2) (hp : p ≤ l.length)
    (h1 : ∀ q ∈ l, (∃ c, q = .agg c) ∨ q.one = true) (h1e : (∃ c, el = .agg c) ∨ el.one = true) (hbig : (l.length + 1) * by_ ≤ 140737488355328) (h63 : l.length + 1 ≤ maxLen) (hfr : σ.free d = true) (hi : Γ.inn d = none) (hc : InsCT Γ.P f s by_)
    (hK : ∀ T', K ⟨(d, .own d) :: σ.t, ins d (.row s T' (insAt l p el)) (ins d (.row s T l) (dropH k σ.h))⟩) : XOk Γ a w o False K := by
  have hX : a.eval x = ρ k := by have := I.ev x; rw [hx] at this; exact this
  have hZ : a.eval z = ρ k2 := by have := I.ev z; rw [hz] at this; exact this
  have hY : a.eval y = .int .i64 (p : Int) := by have := I.ev y; rw [hy] at this; exact rep_raw' this
  have hrun : (execOp a.eval o).run Γ.P w = .ok (.enter f #[ρ k, .int .i64 (p : Int), ρ k2]) w := by
    have hF : a.eval (.func f) = .func (.func f) #[] #[] := rfl
    simp [execOp, ho, resolve, hF, Deferred.ofValue, invoke, run_callFunc hf hname hb, hX, hY, hZ]
  obtain ⟨f1, f2⟩ := free_rekey (k := k) (e := .row s T l) hfr
  have I2 := I.rekey hfr hk hi
  have hl2 : (ins d (.row s T l) (dropH k σ.h)).lookup d = some (.row s T l) := by rw [lookup_ins, if_pos rfl]
  obtain ⟨hs0, xs, vals, hown, hrep⟩ := I.ent k _ hk
  obtain ⟨_, xs2, vals2, hown2, hrep2⟩ := I.ent k2 _ hk2
  have hx1 := row_one hs0 hown.1 hrep h1
  have hx2 := row_one hs0 hown2.1 hrep2 (fun q hq => by simp at hq; subst hq; exact h1e)
  obtain ⟨e1, e2, e3⟩ := hrep2 0 el rfl
  rcases hown2.2 with ⟨_, h⟩ | ⟨vb, vc, cv, hv2, _, hg2, hcap2, hcm2, hcs2, htk2⟩
  · simp at h
  · have hbk2 : blk (ρ k2) = some vb := by rw [hv2]; rfl
    have hxl2 : xs2.length = s := by have := hown2.1; simpa using this
    have hne : blk (ρ k) ≠ some vb := fun h => hkk (I.sep k k2 _ _ vb hk hk2 h hbk2)
    unfold XOk oN
    rw [hrun, hv2]
    refine (hc w (ρ k) T l.length xs p vb vc cv T2 xs2 hown hx1 hp hbig h63 hg2 (by rw [← htk2]; simp) hxl2 hx2 hne).mono ?_
    rintro e w' ⟨v', T', he, hrow, hgr, hnew⟩
    have hkp : Kp w (Own Γ σ.h ρ) w' (Own Γ (ins d (.row s T' (insAt l p el)) (ins d (.row s T l) (dropH k σ.h))) (upd (upd ρ d (ρ k)) d v')) := by
      intro b hlt hno
      refine ⟨hgr.block b hlt fun hbk => hno (.inr ⟨k, _, hk, hbk.symm⟩), ?_⟩
      rintro (hO | ⟨k1, e1, hk1, hb1⟩)
      · exact hno (.inl hO)
      · rw [lookup_ins] at hk1
        by_cases hq : k1 = d
        · subst hq
          rw [upd_at] at hb1
          rcases (hnew b hb1).2 with h | h
          · omega
          · exact hno (.inr ⟨k, _, hk, h⟩)
        · rw [if_neg hq, lookup_ins, if_neg hq] at hk1
          rw [upd_ne _ _ hq, upd_ne _ _ hq] at hb1
          exact hno (.inr ⟨k1, e1, (dropH_lookup hk1).1, hb1⟩)
    refine ⟨_, he, _, hK T', ⟨upd (upd ρ d (ρ k)) d v', ?_⟩, fun h => h.elim⟩
    have hxl : xs.length = l.length * s := hown.1
    have hps : p * s ≤ l.length * s := Nat.mul_le_mul_right s hp
    have I3 := I2.heap (t' := σ.t) (k := d) (e := .row s T' (insAt l p el)) (v' := v') (w' := w') (fun t lv h => .inl h)
      (.inr ⟨f1, f2⟩) ⟨hgr.os, hgr.tape, hgr.output, hgr.size⟩ (fun b hb hne2 => hgr.block b hb fun h => hne2 _ hl2 (by rw [upd_at]; exact h.symm))
      (fun b hb => ⟨(hnew b hb).1, (hnew b hb).2.imp id fun h => ⟨_, hl2, by rw [upd_at]; exact h⟩⟩)
      (fun v h => by rw [hi] at h; cases h)
      ⟨hs0, xs.take (p * s) ++ xs2 ++ xs.drop (p * s), fun j => if j < p then vals j else if j = p then vals2 0 else vals (j - 1), by rw [upd_at, insAt_len _ _ _ hp]; exact hrow, fun j q hj => by
        rw [insAt_get _ _ _ hp] at hj
        have ht : (xs.take (p * s)).length = p * s := by rw [List.length_take]; omega
        by_cases c1 : j < p
        · simp only [if_pos c1] at hj ⊢
          obtain ⟨r1, r2, r3⟩ := hrep j q hj
          refine ⟨r1.kp hkp, r2, fun m u hu => ?_⟩
          have hm : m < s := by have := (Array.getElem?_eq_some_iff.1 hu).1; omega
          have h4 := r3 m u hu
          have h5 : (j + 1) * s ≤ p * s := Nat.mul_le_mul_right s c1
          rw [Nat.add_mul, Nat.one_mul] at h5
          rw [List.append_assoc, List.getElem?_append_left (by omega), List.getElem?_take, if_pos (by omega)]; exact h4
        · by_cases c2 : j = p
          · subst c2
            simp only [if_neg c1, if_true, Option.some.injEq] at hj ⊢
            subst hj
            refine ⟨e1.kp hkp, e2, fun m u hu => ?_⟩
            have hm : m < s := by have := (Array.getElem?_eq_some_iff.1 hu).1; omega
            have h4 := e3 m u hu
            rw [Nat.zero_mul, Nat.zero_add] at h4
            rw [List.append_assoc, List.getElem?_append_right (by omega), ht, List.getElem?_append_left (by omega)]
            rw [show j * s + m - j * s = m by omega]; exact h4
          · simp only [if_neg c1, if_neg c2] at hj ⊢
            obtain ⟨r1, r2, r3⟩ := hrep (j - 1) q hj
            refine ⟨r1.kp hkp, r2, fun m u hu => ?_⟩
            have h4 := r3 m u hu
            have h5 : (p + 1) * s ≤ j * s := Nat.mul_le_mul_right s (by omega)
            rw [Nat.add_mul, Nat.one_mul] at h5
            have h6 : j * s = (j - 1) * s + s := by rw [← Nat.succ_mul]; congr 1; omega
            rw [List.getElem?_append_right (by rw [List.length_append, ht, hxl2]; omega), List.length_append, ht, hxl2, List.getElem?_drop]
            rw [show p * s + (j * s + m - (p * s + s)) = (j - 1) * s + m by omega]; exact h4⟩
    rw [hd]
    exact I3.put (d := some d) (lv := .own d) (v := v') (by simpa using hdn) (upd_at _ _ _).symm
end
section
variable {Γ : Ctx} {ops : Array Oper} {l : List (Oper × Nat)} {t : List (Nat × LV)} {h : List (Nat × Ent)} {K : St → Prop} {c d ty : Nat} {ps : String} {af : Array Edge} {x y z : Operand}
theorem q_insT {f k k2 s T T2 by_ p : Nat} {ts : Array Nat} {r : List SV} {el : SV} (hc : InsCT Γ.P f s by_) (hcl : Calb Γ.P f) (hx : St.ev ⟨t, h⟩ x = .own k) (hh : h.lookup k = some (.row s T r)) (hy : St.ev ⟨t, h⟩ y = .sv (.raw (.int .i64 (p : Int)))) (hz : St.ev ⟨t, h⟩ z = .own k2) (hk2 : h.lookup k2 = some (.row s T2 [el])) (hkk : k ≠ k2) (hp : p ≤ r.length)
    (h1 : ∀ q ∈ r, (∃ c, q = .agg c) ∨ q.one = true) (h1e : (∃ c, el = .agg c) ∨ el.one = true) (hbig : (r.length + 1) * by_ ≤ 140737488355328) (h63 : r.length + 1 ≤ maxLen) (hf : St.free ⟨t, h⟩ d = true) (hi : Γ.inn d = none)
    (hk : ∀ T', RunL Γ ops l ⟨(d, .own d) :: t, ins d (.row s T' (insAt r p el)) (ins d (.row s T r) (dropH k h))⟩ K) :
    RunL Γ ops ((⟨some d, .call { callee := .value (.func f), args := #[x, y, z], argTypes := ts }, ty, ps, af, none⟩, 2) :: l) ⟨t, h⟩ K :=
  let ⟨_, hf', hname, hb⟩ := hcl
  run_x (ext := False) rfl (by omega) (fun h => (h rfl).elim) fun _ _ _ I hd => ok_insT I rfl rfl (by simpa [dstOk] using hd) hf' hname hb hx hh hy hz hk2 hkk hp h1 h1e hbig h63 hf hi hc hk
end
end Go.Abs

/- Copies and marks of all kinds: what is alike in them. No condition. -/
namespace Go.Abs
open Go Go.RowKit Go.Eager Go.Ring
set_option linter.unusedVariables false
set_option linter.unusedSimpArgs false
def isRaw : SV → Bool
  | .raw _ => true
  | _ => false
theorem isRaw_inv {s : SV} (h : isRaw s = true) : ∃ u, s = .raw u := by cases s <;> first | exact ⟨_, rfl⟩ | cases h
def flatV : SV → Bool
  | .raw _ => true
  | .agg l => l.all isRaw
  | _ => false
theorem flat_zn {s : SV} (h : flatV s = true) {b : Nat} : ¬ Zn b s := by
  intro hb
  cases hb with
  | tr => cases h
  | tup => cases h
  | agg l s hs hb =>
    obtain ⟨u, rfl⟩ := isRaw_inv (List.all_eq_true.1 h s hs)
    exact zn_raw hb
theorem flat_gd {s : SV} (h : flatV s = true) : Gd s s := by
  match s, h with
  | .raw u, _ => exact .raw u
  | .agg l, h =>
    have hx : ∀ {i : Nat} {r : SV}, l[i]? = some r → ∃ u, r = .raw u := fun hi => isRaw_inv (List.all_eq_true.1 h _ (List.mem_of_getElem? hi))
    refine .agg l l rfl (fun i r s hr hs => ?_) (fun i j b ri rj hi hj hbi hbj => ?_)
    · obtain ⟨u, rfl⟩ := hx hr
      rw [hr] at hs
      cases hs
      exact .raw u
    · obtain ⟨u, rfl⟩ := hx hi
      exact (zn_raw hbi).elim
theorem flat_eq {r s : SV} (h : flatV s = true) (g : Gd r s) : r = s := by
  cases g with
  | raw => rfl
  | tr => cases h
  | agg rs ss hn hh hap =>
    congr 1
    apply List.ext_getElem?
    intro i
    rcases Nat.lt_or_ge i rs.length with h1 | h1
    · obtain ⟨r, hr⟩ := sget h1
      obtain ⟨s, hs⟩ := sget (l := ss) (i := i) (by omega)
      obtain ⟨u, rfl⟩ := isRaw_inv (List.all_eq_true.1 h s (smem hs))
      have := hh i r _ hr hs
      cases this
      rw [hr, hs]
    · rw [List.getElem?_eq_none h1, List.getElem?_eq_none (by omega)]
theorem gd_flatL {rs : List SV} (h : ∀ r ∈ rs, flatV r = true) : (∀ (i : Nat) (r s : SV), rs[i]? = some r → rs[i]? = some s → Gd r s) ∧ (∀ (i j b : Nat) (ri rj : SV), rs[i]? = some ri → rs[j]? = some rj → Zn b ri → Zn b rj → i = j) ∧ ∀ r ∈ rs, ∀ b, ¬ Zn b r := by
  refine ⟨fun i r s h1 h2 => ?_, fun i j b ri rj h1 h2 h3 => (flat_zn (h ri (smem h1)) h3).elim, fun r hr b => flat_zn (h r hr)⟩
  rw [h1] at h2
  cases h2
  exact flat_gd (h r (smem h1))
theorem PFnR.toP {P : Program} {f : FuncId} {args : List SV} {s : SV} (h : PFnT P f args s) : PFn P f args s := by
  intro w O vs hO hsz hrep
  refine (h w O vs hO hsz hrep).mono ?_
  rintro e w' ⟨v, r, he, hx, hr, _, hv⟩
  exact ⟨v, he, hx, hr.rep hv⟩
def GL : List SV → List SV → Prop
  | [], [] => True
  | r :: rs, s :: ss => Gd r s ∧ GL rs ss
  | _, _ => False
def AL : List SV → Prop
  | [] => True
  | r :: rs => (∀ b, Zn b r → ∀ x ∈ rs, ¬ Zn b x) ∧ AL rs
theorem GL.len : ∀ {rs ss : List SV}, GL rs ss → rs.length = ss.length
  | [], [], _ => rfl
  | [], _ :: _, h => h.elim
  | _ :: _, [], h => h.elim
  | _ :: rs, _ :: ss, h => by simp [GL.len h.2]
theorem GL.get : ∀ {rs ss : List SV} {i : Nat} {r s : SV}, GL rs ss → rs[i]? = some r → ss[i]? = some s → Gd r s
  | [], _, _, _, _, _, h, _ => by simp at h
  | _ :: _, [], _, _, _, h, _, _ => h.elim
  | _ :: _, _ :: _, 0, _, _, h, h1, h2 => by simp at h1 h2; subst h1 h2; exact h.1
  | _ :: _, _ :: _, i + 1, _, _, h, h1, h2 => GL.get h.2 (by simpa using h1) (by simpa using h2)
theorem AL.sep : ∀ {rs : List SV} {i j b : Nat} {ri rj : SV}, AL rs → rs[i]? = some ri → rs[j]? = some rj → Zn b ri → Zn b rj → i = j
  | [], _, _, _, _, _, _, h, _, _, _ => by simp at h
  | _ :: _, 0, 0, _, _, _, _, _, _, _, _ => rfl
  | r :: rs, 0, j + 1, b, ri, rj, h, h1, h2, h3, h4 => by
    simp at h1 h2; subst h1
    exact (h.1 b h3 rj (smem h2) h4).elim
  | r :: rs, i + 1, 0, b, ri, rj, h, h1, h2, h3, h4 => by
    simp at h1 h2; subst h2
    exact (h.1 b h4 ri (smem h1) h3).elim
  | r :: rs, i + 1, j + 1, b, ri, rj, h, h1, h2, h3, h4 => by
    have := AL.sep h.2 (i := i) (j := j) (by simpa using h1) (by simpa using h2) h3 h4
    omega
theorem gd_agg {rs ss : List SV} (h : GL rs ss) (a : AL rs) : Gd (.agg rs) (.agg ss) := .agg rs ss h.len (fun i r s hr hs => h.get hr hs) (fun i j b ri rj => a.sep)
theorem GL.of : ∀ {rs ss : List SV}, rs.length = ss.length → (∀ (i : Nat) (r s : SV), rs[i]? = some r → ss[i]? = some s → Gd r s) → GL rs ss
  | [], [], _, _ => trivial
  | [], _ :: _, h, _ => by simp at h
  | _ :: _, [], h, _ => by simp at h
  | r :: rs, s :: ss, h, hh => ⟨hh 0 r s rfl rfl, GL.of (by simpa using h) fun i r s hr hs => hh (i + 1) r s (by simpa using hr) (by simpa using hs)⟩
theorem AL.of : ∀ {rs : List SV}, (∀ (i j b : Nat) (ri rj : SV), rs[i]? = some ri → rs[j]? = some rj → Zn b ri → Zn b rj → i = j) → AL rs
  | [], _ => trivial
  | r :: rs, h => ⟨fun b hb x hx hb' => by
      obtain ⟨j, hj⟩ := List.getElem?_of_mem hx
      have := h 0 (j + 1) b r x rfl (by simpa using hj) hb hb'
      omega, AL.of fun i j b ri rj hi hj hbi hbj => by
      have := h (i + 1) (j + 1) b ri rj (by simpa using hi) (by simpa using hj) hbi hbj
      omega⟩
theorem gd_agg_inv {r : SV} {ss : List SV} (h : Gd r (.agg ss)) : ∃ rs, r = .agg rs ∧ GL rs ss ∧ AL rs := by
  generalize hs : SV.agg ss = s at h
  cases h with
  | raw => cases hs
  | tr => cases hs
  | agg rs ss' hn hh hap =>
    injection hs with hs
    subst hs
    exact ⟨rs, rfl, GL.of hn hh, AL.of hap⟩
theorem gd_raw_inv {r : SV} {u : Value} (h : Gd r (.raw u)) : r = .raw u := by cases h; rfl
theorem gd_sl_inv {r : SV} {n : Nat} {l : List SV} (h : Gd r (.sl n l)) : ∃ Z v, r = .tr Z (.sl n l) v := by cases h; exact ⟨_, _, rfl⟩
theorem GL.inv_nil {rs : List SV} (h : GL rs []) : rs = [] := by cases rs with | nil => rfl | cons => exact h.elim
theorem GL.inv_cons {rs : List SV} {s : SV} {ss : List SV} (h : GL rs (s :: ss)) : ∃ r rs', rs = r :: rs' ∧ Gd r s ∧ GL rs' ss := by
  cases rs with | nil => exact h.elim | cons r rs => exact ⟨r, rs, rfl, h.1, h.2⟩
theorem znA_nil {b : Nat} : Zn b (.agg []) ↔ False := ⟨fun h => (by obtain ⟨s, hs, _⟩ := zn_agg h; simp at hs), False.elim⟩
theorem znA_cons {b : Nat} {s : SV} {l : List SV} : Zn b (.agg (s :: l)) ↔ Zn b s ∨ Zn b (.agg l) := by
  constructor
  · intro h
    obtain ⟨x, hx, hb⟩ := zn_agg h
    rcases List.mem_cons.1 hx with rfl | hx
    · exact .inl hb
    · exact .inr (.agg _ x hx hb)
  · rintro (h | h)
    · exact .agg _ s (List.mem_cons_self ..) h
    · obtain ⟨x, hx, hb⟩ := zn_agg h
      exact .agg _ x (List.mem_cons_of_mem _ hx) hb
theorem znT_nil {b : Nat} : Zn b (.tup []) ↔ False := ⟨fun h => (by obtain ⟨s, hs, _⟩ := zn_tup h; simp at hs), False.elim⟩
theorem znT_cons {b : Nat} {s : SV} {l : List SV} : Zn b (.tup (s :: l)) ↔ Zn b s ∨ Zn b (.tup l) := by
  constructor
  · intro h
    obtain ⟨x, hx, hb⟩ := zn_tup h
    rcases List.mem_cons.1 hx with rfl | hx
    · exact .inl hb
    · exact .inr (.tup l x hx hb)
  · rintro (h | h)
    · exact .tup _ s (List.mem_cons_self ..) h
    · obtain ⟨x, hx, hb⟩ := zn_tup h
      exact .tup _ x (List.mem_cons_of_mem _ hx) hb
theorem znI_raw {b : Nat} {u : Value} : Zn b (.raw u) ↔ False := ⟨zn_raw, False.elim⟩
theorem znI_tr {b : Nat} {Z : Nat → Prop} {s : SV} {v : Value} : Zn b (.tr Z s v) ↔ Z b := ⟨zn_tr, .tr Z s v⟩
theorem AL_raw {u : Value} {l : List SV} (h : AL l) : AL (.raw u :: l) := ⟨fun b hb => (zn_raw hb).elim, h⟩
theorem AL_tr {Z : Nat → Prop} {s : SV} {v : Value} {l : List SV} (hd : ∀ b, Z b → ¬ Zn b (.agg l)) (h : AL l) : AL (.tr Z s v :: l) := ⟨fun b hb x hx hx' => hd b (zn_tr hb) (.agg l x hx hx'), h⟩
def MkCL (Zj : Nat → Prop) (s s' : SV) (v : Value) : List LV → List LV → Prop
  | [], [] => True
  | a :: l, b :: m => MkL Zj s s' v a b ∧ MkCL Zj s s' v l m
  | _, _ => False
theorem MkCL.len {Zj : Nat → Prop} {s s' : SV} {v : Value} : ∀ {l m : List LV}, MkCL Zj s s' v l m → m.length = l.length
  | [], [], _ => rfl
  | [], _ :: _, h => h.elim
  | _ :: _, [], h => h.elim
  | _ :: l, _ :: m, h => by simp [MkCL.len h.2]
theorem MkCL.get {Zj : Nat → Prop} {s s' : SV} {v : Value} : ∀ {l m : List LV} {i : Nat} {x x' : LV}, MkCL Zj s s' v l m → l[i]? = some x → m[i]? = some x' → MkL Zj s s' v x x'
  | [], _, _, _, _, _, h, _ => by simp at h
  | _ :: _, [], _, _, _, h, _, _ => h.elim
  | _ :: _, _ :: _, 0, _, _, h, h1, h2 => by simp at h1 h2; subst h1 h2; exact h.1
  | _ :: _, _ :: _, i + 1, _, _, h, h1, h2 => MkCL.get h.2 (by simpa using h1) (by simpa using h2)
theorem mk_box {Zj : Nat → Prop} {s s' : SV} {v : Value} {l m : List LV} (h : MkCL Zj s s' v l m) : MkE Zj s s' v (.box l) (.box m) := .box h.len fun i x x' => h.get
def cOne {α : Type} (_ : α) : Nat := 1
def hInt (x : Int) (k : Nat) : Prop := x = (k : Int)
def cL {α : Type} (c : α → Nat) : List α → Nat
  | [] => 0
  | x :: l => c x + cL c l
theorem cL_append {α : Type} (c : α → Nat) : ∀ (a b : List α), cL c (a ++ b) = cL c a + cL c b
  | [], b => by simp [cL]
  | x :: a, b => by simp [cL, cL_append c a b]; omega
theorem cL_snoc {α : Type} (c : α → Nat) (a : List α) (x : α) : cL c (a ++ [x]) = cL c a + c x := by rw [cL_append]; simp [cL]
theorem cL_const {α : Type} {c : α → Nat} {m : Nat} (hc : ∀ x, c x = m) : ∀ l : List α, cL c l = l.length * m
  | [] => by simp [cL]
  | x :: l => by simp [cL, hc, cL_const hc l, Nat.add_mul]; omega
def HL {α : Type} (c : α → Nat) (h : α → Nat → Prop) : List α → Nat → Prop
  | [], _ => True
  | x :: l, k => h x k ∧ HL c h l (k + c x)
theorem HL_snoc {α : Type} {c : α → Nat} {h : α → Nat → Prop} : ∀ {l : List α} {k : Nat} {x : α}, HL c h l k → h x (k + cL c l) → HL c h (l ++ [x]) k
  | [], k, x, _, hx => ⟨hx, trivial⟩
  | y :: l, k, x, hl, hx => ⟨hl.1, HL_snoc hl.2 (by rw [cL, ← Nat.add_assoc] at hx; exact hx)⟩
structure ShG (Z : Nat → Prop) {α : Type} (e : α → SV) (rs : List SV) (xs : List α) : Prop where
  len : rs.length = xs.length
  ap : ∀ (i j b : Nat) (ri rj : SV), rs[i]? = some ri → rs[j]? = some rj → Zn b ri → Zn b rj → i = j
  zn : ∀ r ∈ rs, ∀ b, Zn b r → Z b
  gd : ∀ (j : Nat) (r : SV) (x : α), rs[j]? = some r → xs[j]? = some x → Gd r (e x)
theorem set_getG {α : Type} {rs : List α} {i j : Nat} {x r : α} (h : (rs.set i x)[j]? = some r) : (j = i ∧ r = x) ∨ (j ≠ i ∧ rs[j]? = some r) := by
  rw [List.getElem?_set] at h
  by_cases hij : i = j
  · subst hij
    rw [if_pos rfl] at h
    split at h
    · exact .inl ⟨rfl, by cases h; rfl⟩
    · cases h
  · rw [if_neg hij] at h; exact .inr ⟨fun e => hij e.symm, h⟩
theorem set_self_getG {α : Type} {rs : List α} {i : Nat} {x y : α} (h : rs[i]? = some y) : (rs.set i x)[i]? = some x := by
  rw [List.getElem?_set, if_pos rfl, if_pos (slt h)]
section
variable {Z : Nat → Prop} {α : Type} {e : α → SV} {rs : List SV}
theorem ShG.set {d t : List α} {u u' : α} {r r' : SV} (h : ShG Z e rs (d ++ u :: t)) (hr : rs[d.length]? = some r) (hg : Gd r' (e u')) (hz : ∀ b, Zn b r' → Zn b r) : ShG Z e (rs.set d.length r') (d ++ u' :: t) := by
  have hx : ∀ {j : Nat} {q : SV} {b : Nat}, (rs.set d.length r')[j]? = some q → Zn b q → ∃ q', rs[j]? = some q' ∧ Zn b q' := by
    intro j q b hj hb
    rcases set_getG hj with ⟨rfl, rfl⟩ | ⟨_, h2⟩
    · exact ⟨_, hr, hz b hb⟩
    · exact ⟨_, h2, hb⟩
  refine ⟨by simpa using h.len, fun a c b ra rc ha hc hba hbc => ?_, fun q hq b hb => ?_, fun j q x hj hxj => ?_⟩
  · obtain ⟨x, h1, h2⟩ := hx ha hba
    obtain ⟨y, h3, h4⟩ := hx hc hbc
    exact h.ap a c b x y h1 h3 h2 h4
  · obtain ⟨j, hj⟩ := List.getElem?_of_mem hq
    obtain ⟨x, h1, h2⟩ := hx hj hb
    exact h.zn x (smem h1) b h2
  · rcases set_getG hj with ⟨rfl, rfl⟩ | ⟨hne, h2⟩
    · rw [List.getElem?_append_right (Nat.le_refl _), Nat.sub_self] at hxj
      simp at hxj; subst hxj; exact hg
    · refine h.gd j q x h2 ?_
      rcases Nat.lt_or_ge j d.length with h1 | h1
      · rw [List.getElem?_append_left h1] at hxj ⊢; exact hxj
      · rw [List.getElem?_append_right h1] at hxj ⊢
        rw [show j - d.length = (j - d.length - 1) + 1 by omega] at hxj ⊢
        simpa using hxj
theorem ShG.here {d t : List α} {u : α} (h : ShG Z e rs (d ++ u :: t)) : ∃ r, rs[d.length]? = some r ∧ Gd r (e u) := by
  have hl := h.len
  obtain ⟨r, hr⟩ := sget (l := rs) (i := d.length) (by rw [hl]; simp)
  exact ⟨r, hr, h.gd _ _ _ hr (by rw [List.getElem?_append_right (Nat.le_refl _), Nat.sub_self]; rfl)⟩
theorem mk_otherG {Zj : Nat → Prop} {s s' r q : SV} {v : Value} (g : Gd r q) (hd : ∀ b, Zn b r → ¬ Zj b) : Mk Zj s s' v r r := by
  induction g with
  | raw u => exact .raw u
  | tr Z n l u => exact .other Z _ u fun b hb => hd b (.tr Z _ u hb)
  | agg rs ss hn hh hap ih =>
    refine .agg rs rs rfl fun i x x' hx hx' => ?_
    rw [hx] at hx'
    cases hx'
    obtain ⟨y, hy⟩ := sget (l := ss) (i := i) (by have := slt hx; omega)
    exact ih i x y hx hy fun b hb => hd b (.agg rs x (smem hx) hb)
def MkAL (Zj : Nat → Prop) (s s' : SV) (v : Value) : List SV → List SV → Prop
  | [], [] => True
  | a :: l, b :: m => Mk Zj s s' v a b ∧ MkAL Zj s s' v l m
  | _, _ => False
theorem MkAL.len {Zj : Nat → Prop} {s s' : SV} {v : Value} : ∀ {l m : List SV}, MkAL Zj s s' v l m → m.length = l.length
  | [], [], _ => rfl
  | [], _ :: _, h => h.elim
  | _ :: _, [], h => h.elim
  | _ :: l, _ :: m, h => by simp [MkAL.len h.2]
theorem MkAL.get {Zj : Nat → Prop} {s s' : SV} {v : Value} : ∀ {l m : List SV} {i : Nat} {x x' : SV}, MkAL Zj s s' v l m → l[i]? = some x → m[i]? = some x' → Mk Zj s s' v x x'
  | [], _, _, _, _, _, h, _ => by simp at h
  | _ :: _, [], _, _, _, h, _, _ => h.elim
  | _ :: _, _ :: _, 0, _, _, h, h1, h2 => by simp at h1 h2; subst h1 h2; exact h.1
  | _ :: _, _ :: _, i + 1, _, _, h, h1, h2 => MkAL.get h.2 (by simpa using h1) (by simpa using h2)
theorem mk_aggL {Zj : Nat → Prop} {s s' : SV} {v : Value} {l m : List SV} (h : MkAL Zj s s' v l m) : Mk Zj s s' v (.agg l) (.agg m) := .agg l m h.len fun i x x' => h.get
theorem mk_rowG {d t : List α} {u : α} {r r' : SV} {n T : Nat} {Zj : Nat → Prop} {s s' : SV} {v : Value} (h : ShG Z e rs (d ++ u :: t)) (hr : rs[d.length]? = some r) (hz : ∀ b, Zj b → Zn b r) (m : Mk Zj s s' v r r') : MkE Zj s s' v (.row n T rs) (.row n T (rs.set d.length r')) := by
  refine .row (by simp) fun j x x' hx hx' => ?_
  rcases set_getG hx' with ⟨rfl, rfl⟩ | ⟨hne, h2⟩
  · rw [hr] at hx
    cases hx
    exact m
  · rw [hx] at h2
    cases h2
    obtain ⟨y, hy⟩ := sget (l := d ++ u :: t) (i := j) (by have := slt hx; rw [h.len] at this; exact this)
    exact mk_otherG (h.gd j x y hx hy) fun b hb hb' => hne (h.ap j d.length b _ _ hx hr hb (hz b hb'))
end
def vof : SV → Value
  | .raw u => u
  | .tr _ _ v => v
  | _ => undef
def rt : SV → Bool
  | .raw _ => true
  | .tr _ _ _ => true
  | _ => false
theorem vof_eq {w : World} {O : Nat → Prop} {r : SV} {v : Value} (h : Rep w O r v) (hr : rt r = true) : v = vof r := by
  cases h <;> first | rfl | cases hr
def endS (t bx : Nat) (Z : Nat → Prop) (rs : List SV) (R : Int → SV → Prop) : Exit → St → Prop
  | .normal, σ | .ret, σ => ∃ (k' : Int) (rs' ss' : List SV), σ.ev (.tmp t) = .sv (.raw (.int .i64 k')) ∧ σ.h.lookup bx = some (.box (rs'.map .sv)) ∧ rs'.map vof = rs.map vof ∧ rs'.all rt = true ∧ GL rs' ss' ∧ AL rs' ∧ (∀ b, Zn b (.agg rs') → Z b) ∧ R k' (.agg ss')
  | _, _ => False
theorem fns_ok {P : Program} {f : FuncId} {fn : Func} {c : Code} {t bx m : Nat} {ss : List SV} {k : Int} {R : Int → SV → Prop} (hf : P.funcs[f]? = some fn) (hb : fn.body = some c) (hrs : fn.results = #[.tmp t]) (hnt : fn.ntmps = m) (hn : 2 ≤ m)
    (h : ∀ (w0 : World) (Z : Nat → Prop) (rs : List SV), GL rs ss → AL rs → (∀ b, Zn b (.agg rs) → Z b) → rs.all rt = true ∧
      Ok { P := P, w0 := w0, O := fun _ => False, M := Z, inn := fun _ => none, n := m } c ⟨[(0, .sv (.agg rs)), (1, .sv (.raw (.int .i64 k)))], []⟩ (endS t bx Z rs R)) : MarkC P f (.agg ss) k R := by
  intro w Z v hT hZ
  subst hnt
  obtain ⟨r, hg, hzn, hrep⟩ := tree_open (O := fun _ => False) hT (fun b hb => ⟨hZ b hb, fun h => h⟩)
  obtain ⟨rs, rfl, hGL, hAL⟩ := gd_agg_inv hg
  obtain ⟨hrt, hok⟩ := h w Z rs hGL hAL hzn
  refine calls_of_wp hf hb ?_
  let Γ : Ctx := { P := P, w0 := w, O := fun _ => False, M := Z, inn := fun _ => none, n := fn.ntmps }
  have I : Inv Γ ⟨[(0, .sv (.agg rs)), (1, .sv (.raw (.int .i64 k)))], []⟩ { tmps := #[v, .int .i64 k] ++ Array.replicate (fn.ntmps - 2) undef, defers := [] } w := by
    have hno : ∀ d, ¬ Own Γ [] (fun _ => undef) d := by
      rintro d (h | ⟨k', e, hk, _⟩)
      · exact h
      · simp at hk
    refine ⟨fun _ => undef, ⟨rfl, by simp [Γ]; omega, ⟨rfl, rfl, rfl, Nat.le_refl _, fun _ _ _ => rfl⟩, ?_, ?_, ?_, ?_, fun b hb => hb.elim, ?_⟩⟩
    · intro t' lv ht
      rw [List.lookup_cons] at ht
      cases h0 : (t' == 0) with
      | true =>
        have : t' = 0 := by simpa using h0
        subst this
        simp only [h0, Option.some.injEq] at ht
        subst ht
        show Rep w _ _ (Array.getD _ 0 undef)
        rw [Array.getD_eq_getD_getElem?, Array.getElem?_append_left (by simp)]
        show Rep w _ _ v
        exact Rep.kp hrep fun b _ _ => ⟨rfl, hno b⟩
      | false =>
        simp only [h0, List.lookup_cons] at ht
        cases h1 : (t' == 1) with
        | true =>
          have : t' = 1 := by simpa using h1
          subst this
          simp only [h1, Option.some.injEq] at ht
          subst ht
          show Rep w _ _ (Array.getD _ 1 undef)
          rw [Array.getD_eq_getD_getElem?, Array.getElem?_append_left (by simp)]
          exact .raw _
        | false => simp [h1] at ht
    · intro k' e hk; simp at hk
    · intro k' e b hk; simp at hk
    · intro k1 k2 e1 e2 b hk; simp at hk
    · intro k' v hv; simp [Γ] at hv
  refine wp_mono (hok _ w I) ?_
  rintro e a' w' ⟨σ', hq, ρ, J⟩
  have hres : (results fn a'.tmps).run P w' = .ok (a'.tmps.getD t undef) w' := by
    unfold results
    rw [hrs]
    simp
  have fin : (∃ (k' : Int) (rs' ss' : List SV), σ'.ev (.tmp t) = .sv (.raw (.int .i64 k')) ∧ σ'.h.lookup bx = some (.box (rs'.map .sv)) ∧ rs'.map vof = rs.map vof ∧ rs'.all rt = true ∧ GL rs' ss' ∧ AL rs' ∧ (∀ b, Zn b (.agg rs') → Z b) ∧ R k' (.agg ss')) →
      a'.defers = [] ∧ ∃ u, (results fn a'.tmps).run P w' = .ok u w' ∧ ∃ k' s', Ending.returned u = .returned (.int .i64 k') ∧ R k' s' ∧ Chg Z w w' ∧ Tree w' Z s' v := by
    rintro ⟨k', rs', ss', e1, e2, e3, e4, e5, e6, e7, e8⟩
    have hv : a'.tmps.getD t undef = .int .i64 k' := ev_raw J e1
    obtain ⟨b, T, cur, _, _, hs, hc⟩ := J.ent bx _ e2
    have hlen : rs'.length = rs.length := by simpa using congrArg List.length e3
    have hR : Rep w' (Own Γ σ'.h ρ) (.agg rs') v := by
      cases hrep with
      | agg _ vs hn h1 h2 =>
        refine .agg rs' vs (by rw [hn, hlen]) h1 fun i x u hx hu => ?_
        have hlt : i < cur.size := by rw [hs]; simp; exact slt hx
        have h3 := (hc i (.sv x) cur[i] (by rw [List.getElem?_map, hx]; rfl) (Array.getElem?_eq_getElem hlt)).1
        have h4 : Rep w' (Own Γ σ'.h ρ) x cur[i] := h3
        obtain ⟨y, hy⟩ := sget (l := rs) (i := i) (by have := slt hx; omega)
        have h5 := vof_eq h4 (List.all_eq_true.1 e4 x (smem hx))
        have h6 := vof_eq (h2 i y u hy hu) (List.all_eq_true.1 hrt y (smem hy))
        have h7 : vof x = vof y := by
          have := congrArg (fun l => l[i]?) e3
          simp only [List.getElem?_map, hx, hy, Option.map_some, Option.some.injEq] at this
          exact this
        rw [h6, ← h7, ← h5]; exact h4
    exact ⟨J.dfr, _, hres, k', .agg ss', by rw [hv], e8, ⟨J.frm.os, J.frm.tape, J.frm.output, J.frm.size, fun d hd hno => J.frm.block d hd hno⟩, ((gd_agg e5 e6).tree hR).mono e7⟩
  cases e with
  | normal => exact fin hq
  | ret => exact fin hq
  | _ => exact hq.elim
section
variable {Γ : Ctx} {ops : Array Oper} {l : List (Oper × Nat)} {t : List (Nat × LV)} {h : List (Nat × Ent)} {K : St → Prop} {c d ty : Nat} {ps : String} {af : Array Edge} {x y : Operand}
inductive LsL (Z : Nat → Prop) : LV → LV → Prop
  | raw {u : Value} : LsL Z (.sv (.raw u)) (.sv (.raw u))
  | good {r s : SV} (g : Gd r s) (hd : ∀ b, Zn b r → ¬ Z b) : LsL Z (.sv r) (.sv r)
  | av {Z2 : Nat → Prop} {s : SV} (hs : ∀ b, Z b → Z2 b) : LsL Z (.av Z2 s) (.av Z2 s)
  | own {k : Nat} : LsL Z (.own k) (.own k)
  | ptr {k j : Nat} : LsL Z (.ptr k j) (.ptr k j)
  | dead {lv : LV} : LsL Z lv .dead
def LsT (Z : Nat → Prop) (t : List (Nat × LV)) : List (Nat × LV) → Prop
  | [] => True
  | (k, lv') :: t' => (∃ lv, t.lookup k = some lv ∧ LsL Z lv lv') ∧ LsT Z t t'
def LsC (Z : Nat → Prop) : List LV → List LV → Prop
  | [], [] => True
  | a :: l, b :: m => LsL Z a b ∧ LsC Z l m
  | _, _ => False
inductive LsE (Z : Nat → Prop) : Ent → Ent → Prop
  | box {c c' : List LV} (h : LsC Z c c') : LsE Z (.box c) (.box c')
  | row {n T : Nat} {l : List SV} (h : ∀ r ∈ l, (∃ s, Gd r s) ∧ ∀ b, Zn b r → ¬ Z b) : LsE Z (.row n T l) (.row n T l)
def LsH (Z : Nat → Prop) (h : List (Nat × Ent)) : List (Nat × Ent) → Prop
  | [] => True
  | (k, e') :: h' => (∃ e, h.lookup k = some e ∧ LsE Z e e') ∧ LsH Z h h'
theorem lsT_lookup {Z : Nat → Prop} {k : Nat} {lv' : LV} : ∀ {t' : List (Nat × LV)}, LsT Z t t' → t'.lookup k = some lv' → ∃ lv, t.lookup k = some lv ∧ LsL Z lv lv'
  | [], _, h => by simp at h
  | (a, x) :: t', ⟨hx, ht⟩, h => by
    rw [List.lookup_cons] at h
    cases hk : (k == a) with
    | true =>
      have : k = a := by simpa using hk
      subst this
      simp only [hk, Option.some.injEq] at h
      subst h; exact hx
    | false => simp only [hk] at h; exact lsT_lookup ht h
theorem lsH_lookup {Z : Nat → Prop} {k : Nat} {e' : Ent} : ∀ {h' : List (Nat × Ent)}, LsH Z h h' → h'.lookup k = some e' → ∃ e, h.lookup k = some e ∧ LsE Z e e'
  | [], _, h => by simp at h
  | (a, x) :: t', ⟨hx, ht⟩, h => by
    rw [List.lookup_cons] at h
    cases hk : (k == a) with
    | true =>
      have : k = a := by simpa using hk
      subst this
      simp only [hk, Option.some.injEq] at h
      subst h; exact hx
    | false => simp only [hk] at h; exact lsH_lookup ht h
theorem lsC_get {Z : Nat → Prop} : ∀ {l m : List LV} {i : Nat} {x x' : LV}, LsC Z l m → l[i]? = some x → m[i]? = some x' → LsL Z x x'
  | [], _, _, _, _, _, h, _ => by simp at h
  | _ :: _, [], _, _, _, h, _, _ => h.elim
  | _ :: _, _ :: _, 0, _, _, h, h1, h2 => by simp at h1 h2; subst h1 h2; exact h.1
  | _ :: _, _ :: _, i + 1, _, _, h, h1, h2 => lsC_get h.2 (by simpa using h1) (by simpa using h2)
theorem lsC_len {Z : Nat → Prop} : ∀ {l m : List LV}, LsC Z l m → m.length = l.length
  | [], [], _ => rfl
  | [], _ :: _, h => h.elim
  | _ :: _, [], h => h.elim
  | _ :: l, _ :: m, h => by simp [lsC_len h.2]
end
theorem Gd.keep {w w' : World} {O O' : Nat → Prop} {Z : Nat → Prop} {r s : SV} (hc : Chg Z w w') (g : Gd r s) (hd : ∀ b, Zn b r → ¬ Z b) (hO : ∀ b, b < w.heap.size → ¬ O b → ¬ O' b) : ∀ {v : Value}, Rep w O r v → Rep w' O' r v := by
  induction g with
  | raw u => intro v h; cases h; exact .raw _
  | tr Z2 n l u =>
    intro v h
    cases h with
    | tr _ _ _ h1 h2 => exact .tr Z2 _ _ (h1.keep fun b hb => hc.block b (h2 b hb).1 (hd b (.tr Z2 _ _ hb))) fun b hb => ⟨Nat.lt_of_lt_of_le (h2 b hb).1 hc.size, hO b (h2 b hb).1 (h2 b hb).2⟩
  | agg rs ss hn hh hap ih =>
    intro v h
    cases h with
    | agg _ vs hn' h1 h2 =>
      refine .agg rs vs hn' h1 fun i x y hx hy => ?_
      obtain ⟨q, hq⟩ := sget (l := ss) (i := i) (by have := slt hx; omega)
      exact ih i x q hx hq (fun b hb => hd b (.agg rs x (smem hx) hb)) (h2 i x y hx hy)
section
variable {Γ : Ctx} {σ : St} {ρ : Nat → Value} {a : Act} {w : World}
theorem Iv.less (I : Iv Γ σ ρ a w) {Z : Nat → Prop} {w' : World} {t' : List (Nat × LV)} {h' : List (Nat × Ent)} (hc : Chg Z w w') (hZ : ∀ b, Z b → b < w.heap.size ∧ ¬ Own Γ σ.h ρ b)
    (hM : ∀ b, Z b → Γ.w0.heap.size ≤ b ∨ Γ.M b) (ht : LsT Z σ.t t') (hh : LsH Z σ.h h') : Iv Γ ⟨t', h'⟩ ρ a w' := by
  have hO : ∀ b, ¬ Own Γ σ.h ρ b → ¬ Own Γ h' ρ b := by
    rintro b hno (hb | ⟨k, e, hk, hb⟩)
    · exact hno (.inl hb)
    · obtain ⟨e0, hk0, _⟩ := lsH_lookup hh hk
      exact hno (.inr ⟨k, e0, hk0, hb⟩)
  have hL : ∀ {lv lv' : LV} {u : Value}, LsL Z lv lv' → LRep w (Own Γ σ.h ρ) ρ lv u → LRep w' (Own Γ h' ρ) ρ lv' u := by
    intro lv lv' u hm hr
    cases hm with
    | raw => have h1 : Rep w (Own Γ σ.h ρ) _ u := hr; have h2 := rep_raw' h1; show Rep w' _ _ u; rw [h2]; exact .raw _
    | good g hd => exact g.keep hc hd (fun b _ h => hO b h) hr
    | @av Z2 s hs =>
      refine Rep.kp (O := fun b => Own Γ σ.h ρ b ∨ Z2 b) (O' := fun b => Own Γ h' ρ b ∨ Z2 b) hr fun b hb hno => ⟨hc.block b hb fun h => hno (.inr (hs b h)), ?_⟩
      exact fun h => h.elim (hO b fun h => hno (.inl h)) fun h => hno (.inr h)
    | own => exact hr
    | ptr => exact hr
    | dead => exact trivial
  have hblk : ∀ k e b, σ.h.lookup k = some e → blk (ρ k) = some b → w'.heap[b]? = w.heap[b]? := by
    intro k e b hk hb
    exact hc.block b (I.new k e b hk hb).2 fun h => (hZ b h).2 (.inr ⟨k, e, hk, hb⟩)
  refine ⟨I.dfr, I.size, ⟨hc.os.trans I.frm.os, hc.tape.trans I.frm.tape, hc.output.trans I.frm.output, Nat.le_trans I.frm.size hc.size, fun b hb hm => ?_⟩, ?_, ?_, ?_, ?_, I.out, I.inn⟩
  · refine (hc.block b (Nat.lt_of_lt_of_le hb I.frm.size) fun h => ?_).trans (I.frm.block b hb hm)
    rcases hM b h with h1 | h1
    · omega
    · exact hm h1
  · intro k lv' hk
    obtain ⟨lv, hk0, hm⟩ := lsT_lookup ht hk
    exact hL hm (I.tmp k lv hk0)
  · intro k e' hk
    obtain ⟨e, hk0, hm⟩ := lsH_lookup hh hk
    have he := I.ent k e hk0
    cases hm with
    | @box cc cc' hcs =>
      obtain ⟨b, T, cur, h1, h2, h3, h4⟩ := he
      have hn := lsC_len hcs
      refine ⟨b, T, cur, h1, (hblk k _ b hk0 (by rw [h1]; rfl)).trans h2, by rw [h3, hn], fun j lv' u hj hu => ?_⟩
      have hlt : j < cc.length := by rw [← hn]; exact (List.getElem?_eq_some_iff.1 hj).1
      exact ⟨hL (lsC_get hcs (List.getElem?_eq_getElem hlt) hj) (h4 j cc[j] u (List.getElem?_eq_getElem hlt) hu).1, (h4 j cc[j] u (List.getElem?_eq_getElem hlt) hu).2⟩
    | @row n T l hcs =>
      obtain ⟨hz, xs, vals, hown, hel⟩ := he
      refine ⟨hz, xs, vals, ?_, fun i x' hi => ?_⟩
      · refine ⟨hown.1, ?_⟩
        rcases hown.2 with h | ⟨g, cap, cur, e1, e2, e3, rest⟩
        · exact .inl h
        · exact .inr ⟨g, cap, cur, e1, e2, (hblk k _ g hk0 (by rw [e1]; rfl)).trans e3, rest⟩
      · obtain ⟨r1, r2, r3⟩ := hel i x' hi
        obtain ⟨⟨s, g⟩, hd⟩ := hcs x' (smem hi)
        exact ⟨g.keep hc hd (fun b _ h => hO b h) r1, r2, r3⟩
  · intro k e' b hk hb
    obtain ⟨e, hk0, _⟩ := lsH_lookup hh hk
    exact ⟨(I.new k e b hk0 hb).1, Nat.lt_of_lt_of_le (I.new k e b hk0 hb).2 hc.size⟩
  · intro k k' e e' b hk hk' hb hb'
    obtain ⟨e0, hk0, _⟩ := lsH_lookup hh hk
    obtain ⟨e1, hk1, _⟩ := lsH_lookup hh hk'
    exact I.sep k k' e0 e1 b hk0 hk1 hb hb'
theorem tree_of (I : Iv Γ σ ρ a w) {x : Operand} {r s : SV} (hx : σ.ev x = .sv r) (g : Gd r s) : Tree w (fun b => Zn b r) s (a.eval x) ∧ (∀ b, Zn b r → b < w.heap.size ∧ ¬ Own Γ σ.h ρ b) := by
  have h := I.ev x
  rw [hx] at h
  exact ⟨g.tree h, fun b hb => Rep.zn hb h⟩
end
section
variable {Γ : Ctx} {ops : Array Oper} {l : List (Oper × Nat)} {t : List (Nat × LV)} {h : List (Nat × Ent)} {K : St → Prop} {c d ty : Nat} {ps : String} {af : Array Edge} {x y : Operand}
theorem q_markg {f : Nat} {ts : Array Nat} {r s : SV} {k : Int} {R : Int → SV → Prop} (g : Gd r s) (hc : MarkC Γ.P f s k R) (hcl : Calb Γ.P f) (hx : St.ev ⟨t, h⟩ x = .sv r) (hy : St.ev ⟨t, h⟩ y = .sv (.raw (.int .i64 k)))
    (hM : ∀ b, Zn b r → Γ.w0.heap.size ≤ b ∨ Γ.M b) (t' : List (Nat × LV)) (h' : List (Nat × Ent)) (ht : LsT (fun b => Zn b r) t t') (hh : LsH (fun b => Zn b r) h h')
    (hk : ∀ k' s', R k' s' → RunL Γ ops l ⟨(d, .sv (.raw (.int .i64 k'))) :: t', h'⟩ K) :
    RunL Γ ops ((⟨some d, .call { callee := .value (.func f), args := #[x, y], argTypes := ts }, ty, ps, af, none⟩, 2) :: l) ⟨t, h⟩ K := by
  obtain ⟨fn, hf', hname, hb⟩ := hcl
  refine run_x (ext := False) rfl (by omega) (fun h => (h rfl).elim) fun a w ρ I hd => ?_
  obtain ⟨hT, hZ⟩ := tree_of I hx g
  have hY : a.eval y = .int .i64 k := ev_raw I hy
  have hrun : (execOp a.eval ⟨some d, .call { callee := .value (.func f), args := #[x, y], argTypes := ts }, ty, ps, af, none⟩).run Γ.P w = .ok (.enter f #[a.eval x, .int .i64 k]) w := by
    have hF : a.eval (.func f) = .func (.func f) #[] #[] := rfl
    simp [execOp, resolve, hF, Deferred.ofValue, invoke, run_callFunc hf' hname hb, hY]
  unfold XOk oN
  rw [hrun]
  refine (hc w _ _ hT fun b hb => (hZ b hb).1).mono ?_
  rintro e w' ⟨k', s', he, hR, hC, hT'⟩
  exact ⟨_, he, _, hk k' s' hR, ⟨ρ, (I.less hC hZ hM ht hh).put (d := some d) (by simpa [dstOk] using hd) (Rep.raw _)⟩, fun h => h.elim⟩
end
section
variable {Γ : Ctx} {ops : Array Oper} {l : List (Oper × Nat)} {t : List (Nat × LV)} {h : List (Nat × Ent)} {K : St → Prop} {c d ty : Nat} {ps : String} {af : Array Edge} {x : Operand}
theorem q_cvf {bs : List UInt8} {S D e : Nat} (hs : Γ.P.underlying S = some (.slice e)) (he : Γ.P.underlying e = some (.int .u8)) (hD : Γ.P.underlying D = some .string) (hx : St.ev ⟨t, h⟩ x = .sv (.sl 1 (bs.map byteSV)))
    (hk : RunL Γ ops l ⟨(d, .sv (.raw (.string ⟨bs.toArray⟩))) :: t, h⟩ K) : RunL Γ ops ((⟨some d, .convert S D x, ty, ps, af, none⟩, c + 2) :: l) ⟨t, h⟩ K := by
  refine run_x (ext := True) rfl (by omega) (fun _ => trivial) fun a w ρ I hd => ?_
  have hr := I.ev x
  rw [hx] at hr
  have run : (execOp a.eval ⟨some d, .convert S D x, ty, ps, af, none⟩).run Γ.P w = .ok (.value (.string ⟨bs.toArray⟩)) w := by
    have h1 := run_rep_string (P := Γ.P) hr
    obtain ⟨q, n, cc, hq⟩ := rep_sl hr
    rw [hq] at h1
    simp [execOp, hq, run_convert_bytes_string w S D e q n cc hs he hD, h1]
  unfold XOk oN
  rw [run]
  exact ⟨_, hk, ⟨ρ, I.put (d := some d) (by simpa [dstOk] using hd) (Rep.raw _)⟩, fun _ => Ext.refl w⟩
end
def mkD : LV → LV
  | .own k => .own k
  | .ptr k j => .ptr k j
  | .sv (.raw u) => .sv (.raw u)
  | _ => .dead
def mkDT (t : List (Nat × LV)) : List (Nat × LV) := t.map fun p => (p.1, mkD p.2)
theorem mkD_ok {Z : Nat → Prop} {s s' : SV} {v : Value} : ∀ lv : LV, MkL Z s s' v lv (mkD lv)
  | .own _ => .own
  | .ptr _ _ => .ptr
  | .sv (.raw u) => .sv (.raw u)
  | .sv (.sl _ _) => .dead
  | .sv (.agg _) => .dead
  | .sv (.tup _) => .dead
  | .sv (.clo _ _) => .dead
  | .sv (.ptr _) => .dead
  | .sv (.tr _ _ _) => .dead
  | .eptr _ _ _ _ => .dead
  | .osub _ _ _ => .dead
  | .av _ _ => .dead
  | .cfn _ _ => .dead
  | .dead => .dead
theorem mkDT_ok {Z : Nat → Prop} {s s' : SV} {v : Value} : ∀ t : List (Nat × LV), MkT Z s s' v t (mkDT t)
  | [] => trivial
  | (_, lv) :: t => ⟨rfl, mkD_ok lv, mkDT_ok t⟩
theorem fillR_set {rs : List SV} {z x : SV} {n : Nat} (h : rs.length < n) : (rs ++ List.replicate (n - rs.length) z).set rs.length x = (rs ++ [x]) ++ List.replicate (n - (rs ++ [x]).length) z := by
  rw [List.set_append_right _ _ (Nat.le_refl _), Nat.sub_self, show n - rs.length = (n - (rs.length + 1)) + 1 by omega, List.replicate_succ, List.set_cons_zero, List.append_assoc]
  congr 2
  simp
theorem fillR_get {rs : List SV} {z : SV} {n : Nat} (h : rs.length < n) : (rs ++ List.replicate (n - rs.length) z)[rs.length]? = some z := by
  rw [List.getElem?_append_right (Nat.le_refl _), Nat.sub_self, List.getElem?_replicate, if_pos (by omega)]
structure Cps (w0 : World) (rs ss : List SV) : Prop where
  len : rs.length = ss.length
  gd : ∀ (i : Nat) (r s : SV), rs[i]? = some r → ss[i]? = some s → Gd r s
  ap : ∀ (i j b : Nat) (ri rj : SV), rs[i]? = some ri → rs[j]? = some rj → Zn b ri → Zn b rj → i = j
  nw : ∀ r ∈ rs, ∀ b, Zn b r → w0.heap.size ≤ b
theorem Cps.nil (w0 : World) : Cps w0 [] [] := ⟨rfl, fun i r s h => by simp at h, fun i j b ri rj h => by simp at h, fun r h => by simp at h⟩
theorem Cps.snoc {w0 : World} {rs ss : List SV} {r s : SV} (h : Cps w0 rs ss) (hg : Gd r s) (ha : ∀ x ∈ rs, ∀ b, Zn b x → ¬ Zn b r) (hn : ∀ b, Zn b r → w0.heap.size ≤ b) : Cps w0 (rs ++ [r]) (ss ++ [s]) := by
  have key : ∀ {α : Type} {l : List α} {x y : α} {i : Nat}, (l ++ [x])[i]? = some y → (l[i]? = some y ∧ i < l.length) ∨ (i = l.length ∧ y = x) := by
    intro α l x y i hi
    rcases Nat.lt_or_ge i l.length with h1 | h1
    · rw [List.getElem?_append_left h1] at hi; exact .inl ⟨hi, h1⟩
    · rw [List.getElem?_append_right h1] at hi
      have h2 := (List.getElem?_eq_some_iff.1 hi).1
      simp at h2
      have h3 : i = l.length := by omega
      subst h3
      simp at hi
      exact .inr ⟨rfl, hi.symm⟩
  refine ⟨by simp [h.len], fun i r' s' hr hs => ?_, fun i j b ri rj hi hj hbi hbj => ?_, fun x hx b hb => ?_⟩
  · rcases key hr with ⟨h1, h2⟩ | ⟨h1, rfl⟩
    · rcases key hs with ⟨h3, _⟩ | ⟨h3, _⟩
      · exact h.gd i r' s' h1 h3
      · have := h.len; omega
    · rcases key hs with ⟨_, h3⟩ | ⟨_, rfl⟩
      · have := h.len; omega
      · exact hg
  · rcases key hi with ⟨h1, h2⟩ | ⟨h1, rfl⟩ <;> rcases key hj with ⟨h3, h4⟩ | ⟨h3, rfl⟩
    · exact h.ap i j b ri rj h1 h3 hbi hbj
    · exact (ha ri (List.mem_of_getElem? h1) b hbi hbj).elim
    · exact (ha rj (List.mem_of_getElem? h3) b hbj hbi).elim
    · omega
  · rcases List.mem_append.1 hx with hx | hx
    · exact h.nw x hx b hb
    · simp at hx; subst hx; exact hn b hb
theorem hnil_of {P : Program} {f n : Nat} {k : Int} (h : PFn P f [.sl n [], .raw (.int .i64 k)] (.raw (.int .i64 k))) (w : World) (v : Value) (hr : Rep w (fun _ => False) (.sl n []) v) : Calls P f #[v, .int .i64 k] w fun e w' => e = .returned (.int .i64 k) ∧ Ext w w' := by
  refine (h w (fun _ => False) #[v, .int .i64 k] (fun b h => h.elim) rfl (fun i s u hs hu => ?_)).mono ?_
  · match i, hs, hu with
    | 0, hs, hu => simp at hs hu; subst hs hu; exact hr
    | 1, hs, hu => simp at hs hu; subst hs hu; exact Rep.raw _
    | i + 2, hs, hu => simp at hs
  · rintro e w' ⟨u, he, hx, hv⟩
    rw [rep_raw' hv] at he
    exact ⟨he, hx⟩
def KC (c : Nat) (f : Int → Int) (m : Int) : Prop := ∀ n, 0 ≤ f n → (c : Int) ≤ 16 * (n - f n) + m
theorem kc_take0 (m : Nat) : KC 0 (fun n => take n m) 0 := by
  intro n h
  simp only [take] at h ⊢
  split at h
  · omega
  · rename_i h1; rw [if_neg h1]; omega
theorem kc_take (m c : Nat) (hc : c ≤ 16 * m) : KC c (fun n => take n m) 0 := by
  intro n h
  simp only [take] at h ⊢
  split at h
  · omega
  · rename_i h1; rw [if_neg h1]; omega
theorem kc_stp {a b : Nat} {f g : Int → Int} (hf : KC a f 0) (hg : KC b g 0) : KC (a + b) (stp f g) 0 := by
  intro n h
  unfold stp at h ⊢
  split at h
  · omega
  · rename_i h1
    rw [if_neg h1]
    have := hf n (by omega)
    have := hg (f n) h
    omega
theorem kc_all {α : Type} {c : α → Nat} {f : α → Int → Int} (h : ∀ x, KC (c x) (f x) 16) : ∀ (l : List α) (n : Int), 0 ≤ szAll f l n → (cL c l : Int) ≤ 16 * (n - szAll f l n) + 16 * l.length
  | [], n, _ => by simp [cL, szAll]
  | x :: l, n, h0 => by
    unfold szAll at h0 ⊢
    split at h0
    · omega
    · rename_i h1
      rw [if_neg h1]
      have h2 := h x n (by omega)
      have h3 := kc_all h l (f x n) h0
      simp only [cL, List.length_cons]
      omega
theorem kc_sl {α : Type} {c : α → Nat} {f : α → Int → Int} (h : ∀ x, KC (c x) (f x) 16) (l : List α) : KC (cL c l) (szSl f l) 0 := by
  intro n h0
  by_cases h1 : n - l.length < 0
  · rw [szSl_pos h1] at h0; omega
  · rw [szSl_neg h1] at h0 ⊢
    have := kc_all h l _ h0
    omega
theorem KC.mono {c c' : Nat} {f : Int → Int} {m m' : Int} (h : KC c f m) (hc : (c' : Int) + m ≤ c + m') : KC c' f m' := fun n h0 => by have := h n h0; omega
section
variable {Γ : Ctx} {ops : Array Oper} {l : List (Oper × Nat)} {t : List (Nat × LV)} {h : List (Nat × Ent)} {K : St → Prop} {c d ty : Nat} {ps : String} {af : Array Edge} {x y : Operand}
end
end Go.Abs

/- Functions that hold a box; an append of nothing; a row that may be nil; structs put together. No condition. -/
namespace Go.Abs
open Go Go.RowKit Go.Eager
set_option linter.unusedVariables false
section
variable {Γ : Ctx} {σ : St} {ρ : Nat → Value} {a : Act} {w : World}
theorem clo_val {w : World} {O : Nat → Prop} {f : Nat} {l : List SV} {v : Value} (h : Rep w O (.clo f l) v) : ∃ vs : Array Value, v = .func (.func f) #[] vs ∧ vs.size = l.length ∧ ∀ (i : Nat) (s : SV) (u : Value), l[i]? = some s → vs[i]? = some u → Rep w O s u := by
  cases h with | clo _ _ vs hn h => exact ⟨vs, rfl, hn, h⟩
theorem ok_callc (I : Iv Γ σ ρ a w) {o : Oper} {f : FuncId} {fn : Func} {y : Operand} {args : Array Operand} {ts : Array TypeId} {sa cs : List SV} {R : SV → Prop} {d : Nat} (ks : List Nat) {K : St → Prop}
    (ho : o.op = .call { callee := .value y, args := args, argTypes := ts }) (hy : σ.ev y = .sv (.clo f cs)) (hd : o.dst = some d) (hdn : d < Γ.n) (hf : Γ.P.funcs[f]? = some fn) (hname : (fn.name == "runtime.NumGoroutine") = false) (hb : fn.body.isNone = false)
    (ha : ArgsOk (args.toList.map σ.ev) sa) (hc : PFnR Γ.P f (sa ++ cs) R) (hk : ∀ r, R r → (∀ b, Zn b r → Γ.w0.heap.size ≤ b) → Apart σ.t σ.h r → K ⟨(d, .sv r) :: avK ks (fun b => Zn b r) σ.t, σ.h⟩) : XOk Γ a w o True K := by
  have hY := I.ev y
  rw [hy] at hY
  obtain ⟨vs, hv, hvn, hvr⟩ := clo_val hY
  have hrun : (execOp a.eval o).run Γ.P w = .ok (.enter f (args.map a.eval ++ vs)) w := by
    simp [execOp, ho, resolve, hv, Deferred.ofValue, invoke, run_callFunc hf hname hb]
  have hsa : args.size = sa.length := by have := argsOk_len ha; simpa using this
  have hsz : (args.map a.eval ++ vs).size = (sa ++ cs).length := by simp [hsa, hvn]
  unfold XOk oN
  rw [hrun]
  refine (hc w (Own Γ σ.h ρ) (args.map a.eval ++ vs) (fun b hb => blk_lt I hb) hsz fun i s u hi' hu => ?_).mono ?_
  · rcases Nat.lt_or_ge i sa.length with hlt | hge
    · rw [List.getElem?_append_left hlt] at hi'
      rw [Array.getElem?_append_left (by simp; omega)] at hu
      obtain ⟨lv, h3, h4⟩ := argsOk_get ha hi'
      rw [Array.getElem?_map] at hu
      rw [List.getElem?_map] at h3
      cases hx : args[i]? with
      | none => simp [hx] at hu
      | some x =>
        have hx' : args.toList[i]? = some x := by simpa using hx
        simp only [hx', Option.map_some, Option.some.injEq] at h3
        simp only [hx, Option.map_some, Option.some.injEq] at hu
        subst hu h3
        exact h4.rep (I.ev x)
    · rw [List.getElem?_append_right hge] at hi'
      rw [Array.getElem?_append_right (by simp; omega)] at hu
      refine hvr (i - sa.length) s u hi' ?_
      rw [← hu]
      congr 1
      simp [hsa]
  · rintro e w' ⟨v, r, he, hx, hR, hn, hv⟩
    have I1 := I.ext hx
    have hkp : ∀ {O1 : Nat → Prop}, Kp w O1 w' (fun b => O1 b ∨ Zn b r) := by
      intro O1 b hlt hno
      exact ⟨hx.block b hlt, fun h => h.elim hno fun h => by have := hn b h; omega⟩
    have I2 : Iv Γ ⟨avK ks (fun b => Zn b r) σ.t, σ.h⟩ ρ a w' := by
      refine ⟨I1.dfr, I1.size, I1.frm, fun k lv hk => ?_, I1.ent, I1.new, I1.sep, I1.out, I1.inn⟩
      rcases avK_lookup hk with h | ⟨s, h, rfl⟩ | ⟨Z', s, h, rfl⟩
      · exact I1.tmp k lv h
      · exact Rep.kp (I.tmp k _ h) hkp
      · have h1 : Rep w (fun b => Own Γ σ.h ρ b ∨ Z' b) s (a.tmps.getD k undef) := I.tmp k _ h
        refine Rep.kp h1 fun b hlt hno => ⟨hx.block b hlt, ?_⟩
        rintro (h2 | h2 | h2)
        · exact hno (.inl h2)
        · exact hno (.inr h2)
        · have := hn b h2; omega
    refine ⟨v, he, _, hk r hR (fun b hb => Nat.le_trans I.frm.size (hn b hb)) (apart_of I hn), ⟨ρ, ?_⟩, fun _ => hx⟩
    rw [hd]
    exact I2.put (d := some d) (lv := .sv r) (by simpa using hdn) hv
theorem avK_nil (Z : Nat → Prop) (t : List (Nat × LV)) : avK [] Z t = t := by
  unfold avK
  conv => rhs; rw [← List.map_id t]
  apply List.map_congr_left
  intro p _
  simp
end
section
variable {Γ : Ctx} {ops : Array Oper} {l : List (Oper × Nat)} {t : List (Nat × LV)} {h : List (Nat × Ent)} {K : St → Prop} {c d ty : Nat} {ps : String} {af : Array Edge} {x y : Operand}
theorem q_mkf {f : Nat} {xs : Array Operand} {ss : List SV} (hx : xs.toList.map (St.ev ⟨t, h⟩) = ss.map LV.sv) (hk : RunL Γ ops l ⟨(d, .sv (.clo f ss)) :: t, h⟩ K) :
    RunL Γ ops ((⟨some d, .makeFunc (.func f) #[] xs, ty, ps, af, none⟩, c + 2) :: l) ⟨t, h⟩ K := by
  refine run_x (ext := True) rfl (by omega) (fun _ => trivial) fun a w ρ I hd => ?_
  have run : (execOp a.eval ⟨some d, .makeFunc (.func f) #[] xs, ty, ps, af, none⟩).run Γ.P w = .ok (.value (.func (.func f) #[] (xs.map a.eval))) w := by
    simp [execOp, Instr.makeFunc]
  have hl : xs.size = ss.length := by have := congrArg List.length hx; simpa using this
  unfold XOk oN
  rw [run]
  refine ⟨_, hk, ⟨ρ, I.put (d := some d) (by simpa [dstOk] using hd) (Rep.clo f _ _ (by simp [hl]) fun i s' u hs hu => ?_)⟩, fun _ => Ext.refl w⟩
  rw [Array.getElem?_map] at hu
  cases hq : xs[i]? with
  | none => simp [hq] at hu
  | some q =>
    simp only [hq, Option.map_some, Option.some.injEq] at hu
    subst hu
    have h3 : (xs.toList.map (St.ev ⟨t, h⟩))[i]? = some (.sv s') := by rw [hx, List.getElem?_map, hs]; rfl
    rw [List.getElem?_map, show xs.toList[i]? = some q by simpa using hq] at h3
    simp only [Option.map_some, Option.some.injEq] at h3
    have := I.ev q
    rw [h3] at this
    exact this
theorem q_callc {f : Nat} {args : Array Operand} {ts : Array Nat} {sa cs : List SV} {R : SV → Prop} (hc : PFnR Γ.P f (sa ++ cs) R) (hcl : Calb Γ.P f) (hy : St.ev ⟨t, h⟩ y = .sv (.clo f cs)) (ha : ArgsOk (args.toList.map (St.ev ⟨t, h⟩)) sa)
    (hk : ∀ r, R r → (∀ b, Zn b r → Γ.w0.heap.size ≤ b) → Apart t h r → RunL Γ ops l ⟨(d, .sv r) :: t, h⟩ K) :
    RunL Γ ops ((⟨some d, .call { callee := .value y, args := args, argTypes := ts }, ty, ps, af, none⟩, c + 2) :: l) ⟨t, h⟩ K := by
  obtain ⟨_, hf', hname, hb⟩ := hcl
  refine run_x (ext := True) rfl (by omega) (fun _ => trivial) fun _ _ _ I hd => ok_callc I [] rfl hy rfl (by simpa [dstOk] using hd) hf' hname hb ha hc fun r h1 h2 h3 => ?_
  rw [avK_nil]
  exact hk r h1 h2 h3
theorem q_callcp {f : Nat} {args : Array Operand} {ts : Array Nat} {sa cs : List SV} {u : Value} (hc : PFn Γ.P f (sa ++ cs) (.raw u)) (hcl : Calb Γ.P f) (hy : St.ev ⟨t, h⟩ y = .sv (.clo f cs)) (ha : ArgsOk (args.toList.map (St.ev ⟨t, h⟩)) sa)
    (hk : RunL Γ ops l ⟨(d, .sv (.raw u)) :: t, h⟩ K) :
    RunL Γ ops ((⟨some d, .call { callee := .value y, args := args, argTypes := ts }, ty, ps, af, none⟩, c + 2) :: l) ⟨t, h⟩ K :=
  q_callc (hc.toR fun b hb => zn_raw hb) hcl hy ha fun r hr _ _ => by subst hr; exact hk
theorem q_eqn {n S e t2 : Nat} {r : List SV} (hu : Γ.P.underlying S = some (.slice e)) (hx : St.ev ⟨t, h⟩ x = .sv (.sl n r)) (hk : ∀ b : Bool, (b = true → r = []) → RunL Γ ops l ⟨(d, .sv (.raw (.bool b))) :: t, h⟩ K) :
    RunL Γ ops ((⟨some d, .binOp .eql S x (.const (.slice none 0 0)) t2, ty, ps, af, none⟩, c + 2) :: l) ⟨t, h⟩ K := by
  refine run_x (ext := True) rfl (by omega) (fun _ => trivial) fun a w ρ I hd => ?_
  have hX := I.ev x
  rw [hx] at hX
  obtain ⟨p, m, cc, hv⟩ := rep_sl hX
  have run : (execOp a.eval ⟨some d, .binOp .eql S x (.const (.slice none 0 0)) t2, ty, ps, af, none⟩).run Γ.P w = .ok (.value (.bool p.isNone)) w := by
    have hc2 : a.eval (.const (.slice none 0 0)) = .slice none 0 0 := rfl
    have hun : (underlying S).run Γ.P w = .ok (.slice e) w := by simp [underlying, hu]
    have : (Op.equal S (.slice p m cc) (.slice none 0 0)).run Γ.P w = .ok p.isNone w := by
      unfold Op.equal
      rw [show Op.maxDepth = (Op.maxDepth - 1) + 1 from rfl, Op.equalIn]
      cases p <;> simp [hun]
    have hg : (eqGuard .eql S x (.const (.slice none 0 0)) (.slice p m cc) (.slice none 0 0)).run Γ.P w = .ok () w := by simp [eqGuard]
    simp [execOp, hv, hc2, hg, binOp, this]
  unfold XOk oN
  rw [run]
  refine ⟨_, hk p.isNone (fun hp => ?_), ⟨ρ, I.put (d := some d) (by simpa [dstOk] using hd) (Rep.raw _)⟩, fun _ => Ext.refl w⟩
  rw [hv] at hX
  cases hX with
  | nil => rfl
  | sl => simp at hp
theorem q_lito0 {S e n : Nat} (z : Value) (he : elOf Γ.P S = some (e, n)) (hz : zeroOf Γ.P e = some z) (hn : 0 < n) (hf : St.free ⟨t, h⟩ d = true) (hi : Γ.inn d = none)
    (hk : RunL Γ ops l ⟨(d, .own d) :: t, ins d (.row n e []) h⟩ K) : RunL Γ ops ((⟨some d, .buildSlice S 0 #[], ty, ps, af, none⟩, c + 2) :: l) ⟨t, h⟩ K :=
  run_x (ext := True) rfl (by omega) (fun _ => trivial) fun _ _ _ I hd => ok_buildSliceO (l := []) I rfl rfl (by simpa [dstOk] using hd) hf hi he hz hn rfl (by omega) rfl rfl (by simp) hk
theorem q_appE {S e n k : Nat} (he : elOf Γ.P S = some (e, n)) (hx : St.ev ⟨t, h⟩ x = .own k) (hh : h.lookup k = some (.row n e [])) (hy : St.ev ⟨t, h⟩ y = .sv (.sl n []))
    (hk : RunL Γ ops l ⟨(d, .own k) :: t, h⟩ K) :
    RunL Γ ops ((⟨some d, .call { callee := .builtin .append, args := #[x, y], argTypes := #[S, S] }, ty, ps, af, none⟩, 2) :: l) ⟨t, h⟩ K := by
  refine run_x (ext := False) rfl (by omega) (fun h => (h rfl).elim) fun a w ρ I hd => ?_
  have hX : a.eval x = ρ k := by have := I.ev x; rw [hx] at this; exact this
  have hY := I.ev y
  rw [hy] at hY
  obtain ⟨hu, hs⟩ := elOf_spec he
  obtain ⟨hz0, xs, vals0, hown, hrep⟩ := I.ent k _ hh
  have hS : (sizeOf e).run Γ.P w = .ok n w := by
    unfold szOf at hs
    cases hi : Γ.P.info? e with
    | none => simp [hi] at hs
    | some it => simp [hi] at hs; simp [sizeOf, typeInfo, hi, hs]
  have hU : (underlying S).run Γ.P w = .ok (.slice e) w := by simp [underlying, hu]
  obtain ⟨p, cap, hρ⟩ : ∃ p cap, ρ k = .slice p 0 cap := by
    rcases hown.2 with ⟨h1, _⟩ | ⟨g, cap, cur, h1, _⟩
    · exact ⟨_, _, h1⟩
    · exact ⟨_, _, h1⟩
  obtain ⟨q, cc, hyv⟩ : ∃ q cc, a.eval y = .slice q 0 cc := by
    obtain ⟨q, m, cc, hv⟩ := rep_sl hY
    rw [hv] at hY
    cases hY with
    | nil => exact ⟨_, _, hv⟩
    | sl _ _ _ _ _ _ _ hl => simp at hl
  have run : (execOp a.eval ⟨some d, .call { callee := .builtin .append, args := #[x, y], argTypes := #[S, S] }, ty, ps, af, none⟩).run Γ.P w = .ok (.value (ρ k)) w := by
    have happ : (Builtin.append_ #[S, S] ty #[ρ k, .slice q 0 cc]).run Γ.P w = .ok (ρ k) w := by
      rw [hρ]
      unfold Builtin.append_
      cases p <;> cases q <;> simp [hU, hS, Builtin.lenOf, Builtin.firstCells, loadCells, loadCellsFrom, storeCells]
    simp [execOp, resolve, invoke, builtin, hX, hyv, happ]
  unfold XOk oN
  rw [run]
  exact ⟨_, hk, ⟨ρ, I.put (d := some d) (lv := .own k) (by simpa [dstOk] using hd) rfl⟩, fun _ => Ext.refl w⟩
end
def shp : SV → Value → Prop
  | .raw u, v => v = u
  | .sl _ _, v => ∃ p n c, v = .slice p n c
  | .tr _ (.sl _ _) u, v => v = u ∧ ∃ p n c, v = .slice p n c
  | _, _ => False
def shpOk : SV → Bool
  | .raw u => u.oneCell'
  | .sl _ _ => true
  | .tr _ (.sl _ _) _ => true
  | _ => false
theorem shp_of {w : World} {O : Nat → Prop} {s : SV} {v : Value} (h : Rep w O s v) (h1 : shpOk s = true) : shp s v := by
  cases h with
  | raw => rfl
  | nil => exact ⟨_, _, _, rfl⟩
  | sl => exact ⟨_, _, _, rfl⟩
  | agg => cases h1
  | tup => cases h1
  | ptr => cases h1
  | clo => cases h1
  | tr Z s v hT hZ =>
    cases hT with
    | raw => cases h1
    | agg => cases h1
    | nil => exact ⟨rfl, _, _, _, rfl⟩
    | sl => exact ⟨rfl, _, _, _, rfl⟩
def ShL : List SV → List Value → Prop
  | [], [] => True
  | s :: ss, v :: vs => shp s v ∧ ShL ss vs
  | _, _ => False
def BL (P : Program) (S : Nat) (ss : List SV) : Prop := ∀ vs : List Value, ShL ss vs → P.built S (vs.zipIdx.map fun p => (p.2, p.1)) = some vs.toArray
theorem shL_of {w : World} {O : Nat → Prop} : ∀ {ss : List SV} {vs : List Value}, ss.length = vs.length → (∀ (i : Nat) (s : SV) (v : Value), ss[i]? = some s → vs[i]? = some v → Rep w O s v) → ss.all shpOk = true → ShL ss vs
  | [], [], _, _, _ => trivial
  | [], _ :: _, h, _, _ => by simp at h
  | _ :: _, [], h, _, _ => by simp at h
  | s :: ss, v :: vs, h, hr, ha => by
    simp only [List.all_cons, Bool.and_eq_true] at ha
    exact ⟨shp_of (hr 0 s v rfl rfl) ha.1, shL_of (by simpa using h) (fun i s v hs hv => hr (i + 1) s v (by simpa using hs) (by simpa using hv)) ha.2⟩
theorem shL_one {w : World} {O : Nat → Prop} {s : SV} {v : Value} (h : Rep w O s v) (h1 : shpOk s = true) : s.one = true := by
  cases h with
  | raw => exact h1
  | nil => rfl
  | sl => rfl
  | agg => cases h1
  | tup => cases h1
  | ptr => cases h1
  | clo => cases h1
  | tr Z s v hT hZ => cases hT <;> first | rfl | cases h1
section
variable {Γ : Ctx} {ops : Array Oper} {l : List (Oper × Nat)} {t : List (Nat × LV)} {h : List (Nat × Ent)} {K : St → Prop} {c d ty : Nat} {ps : String} {af : Array Edge} {x y : Operand}
theorem q_bld {S : Nat} {parts : Array (Nat × Operand)} (ss : List SV) (hb : BL Γ.P S ss) (hi : parts.toList.map (·.1) = List.range ss.length) (hx : parts.toList.map (fun p => St.ev ⟨t, h⟩ p.2) = ss.map LV.sv) (ha : ss.all shpOk = true)
    (hk : RunL Γ ops l ⟨(d, .sv (.agg ss)) :: t, h⟩ K) : RunL Γ ops ((⟨some d, .build S parts, ty, ps, af, none⟩, c + 2) :: l) ⟨t, h⟩ K := by
  refine run_x (ext := True) rfl (by omega) (fun _ => trivial) fun a w ρ I hd => ?_
  have hlen : parts.toList.length = ss.length := by have := congrArg List.length hx; simpa using this
  let vs := parts.toList.map fun p => a.eval p.2
  have hvs : ∀ (i : Nat) (s : SV) (v : Value), ss[i]? = some s → vs[i]? = some v → Rep w (Own Γ h ρ) s v := by
    intro i s v hs hv
    have h2 : (parts.toList.map fun p => St.ev ⟨t, h⟩ p.2)[i]? = some (.sv s) := by rw [hx, List.getElem?_map, hs]; rfl
    rw [List.getElem?_map] at h2
    simp only [vs, List.getElem?_map] at hv
    cases hp : parts.toList[i]? with
    | none => simp [hp] at h2
    | some p =>
      simp only [hp, Option.map_some, Option.some.injEq] at h2 hv
      subst hv
      have := I.ev p.2
      rw [h2] at this
      exact this
  have hsh := shL_of (vs := vs) (by simp [vs]; simpa using hlen.symm) hvs ha
  have hparts : (parts.map fun p => (p.1, a.eval p.2)).toList = vs.zipIdx.map fun p => (p.2, p.1) := by
    rw [Array.toList_map]
    apply List.ext_getElem?
    intro i
    simp only [vs, List.getElem?_map, List.getElem?_zipIdx]
    cases hp : parts.toList[i]? with
    | none => simp
    | some p =>
      have h3 : (parts.toList.map (·.1))[i]? = some p.1 := by rw [List.getElem?_map, hp]; rfl
      rw [hi] at h3
      obtain ⟨hlt, he⟩ := List.getElem?_eq_some_iff.1 h3
      simp only [List.getElem_range] at he
      simp [← he]
  have run : (execOp a.eval ⟨some d, .build S parts, ty, ps, af, none⟩).run Γ.P w = .ok (.value (.agg vs.toArray)) w := by
    have h4 := hb vs hsh
    rw [← hparts] at h4
    have := run_build (P := Γ.P) w S (parts.map fun p => (p.1, a.eval p.2)) _ h4
    simp [execOp, this]
  unfold XOk oN
  rw [run]
  refine ⟨_, hk, ⟨ρ, I.put (d := some d) (by simpa [dstOk] using hd) (Rep.agg _ _ (by simp [vs]; simpa using hlen) (fun j u hu => ?_) (fun j s u hs hu => ?_))⟩, fun _ => Ext.refl w⟩
  · have hu' : vs[j]? = some u := by simpa using hu
    obtain ⟨s, hs⟩ : ∃ s, ss[j]? = some s := by
      have : j < vs.length := (List.getElem?_eq_some_iff.1 hu').1
      exact ⟨_, List.getElem?_eq_getElem (by simp [vs] at this; have := hlen; simp at this; omega)⟩
    have hr := hvs j s u hs hu'
    exact hr.oneCell (shL_one hr (List.all_eq_true.1 ha s (List.mem_of_getElem? hs)))
  · exact hvs j s u hs (by simpa using hu)
end
end Go.Abs
