/- The engine, part 2: a layer of plain values over the model. No condition. -/
import Derived.Test.YtanilephcohjkaaGreatEg1
import Derived.Lib.ConvBytes
import Derived.Laws.AppendOwn
import Derived.Laws.BytesString
import Derived.Room.Shelf.Join48
import Derived.Laws.CopyRow
import Derived.Lib.OwnBridge
import Derived.Shelf.Sort.Plain
import Derived.Shelf.Slices.Clone
import Derived.Shelf.SlSortCmp.WholeK
import Derived.Laws.Tables
/- The bytes of a text as a row. No condition. -/
namespace Go.Abs
open Go Go.RowKit Go.Eager
set_option linter.unusedVariables false
theorem bytes_ext (w : World) (e : TypeId) (s : ByteArray) : Ext w (Lib.bytesWorld w e s) := by
  refine ⟨?_, ?_, ?_, ?_, fun k hk => Lib.bytesWorld_at_old w e s k hk⟩
  · simp [Lib.bytesWorld, World.freeze, World.alloc, World.drew, -World.alloc_eq, -World.drew_eq]
  · simp [Lib.bytesWorld, World.freeze, World.alloc, World.drew, -World.alloc_eq, -World.drew_eq]
  · simp [Lib.bytesWorld, World.freeze, World.alloc, World.drew, -World.alloc_eq, -World.drew_eq]
  · rw [Lib.bytesWorld_size]; omega
theorem rep_sl {w : World} {O : Nat → Prop} {n : Nat} {l : List SV} {v : Value} (h : Rep w O (.sl n l) v) : ∃ q m c, v = .slice q m c := by cases h <;> exact ⟨_, _, _, rfl⟩
theorem rep_raw' {w : World} {O : Nat → Prop} {v u : Value} (h : Rep w O (.raw u) v) : v = u := by cases h; rfl
@[reducible] def byteSV (b : UInt8) : SV := .raw (.int .u8 b.toNat)
theorem fold_push : ∀ (bs : List UInt8) (r : ByteArray), (bs.map fun b => (b.toNat : Int)).foldl (fun r n => r.push (UInt8.ofNat n.toNat)) r = ⟨r.data ++ bs.toArray⟩
  | [], r => by simp
  | b :: bs, r => by
    simp only [List.map_cons, List.foldl_cons, Int.toNat_natCast, UInt8.ofNat_toNat]
    rw [fold_push bs (r.push b)]
    simp [ByteArray.push]
/-- A row of bytes, read as a text. -/
theorem run_rep_string {P : Program} {w : World} {O : Nat → Prop} {bs : List UInt8} {v : Value} (h : Rep w O (.sl 1 (bs.map byteSV)) v) : (Conv.bytesToString v).run P w = .ok (.string ⟨bs.toArray⟩) w := by
  generalize hl : bs.map byteSV = l at h
  cases h with
  | nil sz a c =>
    have hb : bs = [] := by cases bs with | nil => rfl | cons b bs => simp at hl
    subst hb
    cases a with
    | none => simp [Conv.bytesToString, Sem.run_pure]; rfl
    | some a =>
      have := run_bytesToString (P := P) w a 0 c [] (by have := run_loadCells_list (P := P) (w := w) a [] (by simp); simpa using this)
      rw [this]; rfl
  | sl sz l b off c vals hb hl' hc hz h1 h2 h3 =>
    have hlen : l.length = bs.length := by rw [← hl]; simp
    have hv : ∀ i b', bs[i]? = some b' → w.cell? ⟨b, off + i, none⟩ = some (.int .u8 b'.toNat) := by
      intro i b' hi
      have h4 := h1 i (byteSV b') (by rw [← hl, List.getElem?_map, hi]; rfl)
      have h5 := rep_raw' h4
      have h6 := h3 i (by rw [hlen]; exact (List.getElem?_eq_some_iff.1 hi).1) 0 (.int .u8 b'.toNat) (by rw [h5]; rfl)
      simpa using h6
    rw [hlen]
    have hld := run_loadCells_list (P := P) (w := w) ⟨b, off, none⟩ (bs.map fun b' => Value.int .u8 b'.toNat) (fun j u hu => by
      rw [List.getElem?_map] at hu
      cases hq : bs[j]? with
      | none => simp [hq] at hu
      | some q => simp [hq] at hu; subst hu; rw [addr_add]; exact hv j q hq)
    rw [List.length_map] at hld
    have := run_bytesToString (P := P) w ⟨b, off, none⟩ bs.length c (bs.map fun b' => (b'.toNat : Int)) (by rw [hld]; simp [Function.comp_def])
    rw [this, fold_push]; simp
section
variable {Γ : Ctx} {ops : Array Oper} {l : List (Oper × Nat)} {t : List (Nat × LV)} {h : List (Nat × Ent)} {K : St → Prop} {c d ty : Nat} {ps : String} {af : Array Edge} {x : Operand}
theorem q_cvb {s : ByteArray} {S D e : Nat} (hs : Γ.P.underlying S = some .string) (hD : Γ.P.underlying D = some (.slice e)) (he : Γ.P.underlying e = some (.int .u8)) (hx : St.ev ⟨t, h⟩ x = .sv (.raw (.string s)))
    (hk : RunL Γ ops l ⟨(d, .sv (.sl 1 (s.data.toList.map fun b => .raw (.int .u8 b.toNat)))) :: t, h⟩ K) :
    RunL Γ ops ((⟨some d, .convert S D x, ty, ps, af, none⟩, c + 2) :: l) ⟨t, h⟩ K := by
  refine run_x (ext := True) rfl (by omega) (fun _ => trivial) fun a w ρ I hd => ?_
  have run : (execOp a.eval ⟨some d, .convert S D x, ty, ps, af, none⟩).run Γ.P w = .ok (.value (.slice (some ⟨w.heap.size, 0, none⟩) s.size (grownCap w s.size 0 e))) (Lib.bytesWorld w e s) := by
    simp [execOp, ev_raw I hx, Lib.run_convert_string_bytes w S D e s hs hD he]
  unfold XOk oN
  rw [run]
  have hx' := bytes_ext w e s
  have I' := I.ext hx'
  refine ⟨_, hk, ⟨ρ, ?_⟩, fun _ => hx'⟩
  refine I'.put (d := some d) (by simpa [dstOk] using hd) ?_
  have hlen : (s.data.toList.map fun b => SV.raw (.int .u8 b.toNat)).length = s.size := by simp
  have hnew : ¬ Own Γ h ρ w.heap.size := by
    rintro (hO | ⟨k, e', hk', hb⟩)
    · have := I.out _ hO
      have := I.frm.size
      omega
    · have := (I.new k e' _ hk' hb).2
      omega
  show Rep _ _ _ _
  rcases Nat.eq_zero_or_pos s.size with h0 | h0
  · have hl : (s.data.toList.map fun b => SV.raw (.int .u8 b.toNat)) = [] := List.eq_nil_of_length_eq_zero (by rw [hlen]; exact h0)
    rw [hl, h0]; exact Rep.nil _ _ _
  · rw [← hlen]
    refine Rep.sl 1 _ w.heap.size 0 _ (fun i => .int .u8 (s.data.toList.getD i 0).toNat) hnew (by rw [hlen]; exact h0) ?_ (by decide) ?_ (fun i _ => rfl) ?_
    · rw [hlen]; exact grownCap_ge _ _ _ _
    · intro i q hi
      rw [List.getElem?_map] at hi
      cases hb : s.data.toList[i]? with
      | none => simp [hb] at hi
      | some b =>
        simp only [hb, Option.map_some, Option.some.injEq] at hi
        subst hi
        rw [List.getD_eq_getElem?_getD, hb]; exact Rep.raw _
    · intro i hi j u hu
      rw [hlen] at hi
      have hj : j = 0 := by
        have := (Array.getElem?_eq_some_iff.1 hu).1
        simp [Value.cells] at this; exact this
      subst hj
      simp [Value.cells] at hu
      subst hu
      simpa using Lib.bytesWorld_cell w e s i hi
/-- A row of bytes of ours, as a text. -/
theorem q_cvo {bs : List UInt8} {S D e k T : Nat} (hs : Γ.P.underlying S = some (.slice e)) (he : Γ.P.underlying e = some (.int .u8)) (hD : Γ.P.underlying D = some .string) (hx : St.ev ⟨t, h⟩ x = .own k) (hh : h.lookup k = some (.row 1 T (bs.map byteSV)))
    (hk : RunL Γ ops l ⟨(d, .sv (.raw (.string ⟨bs.toArray⟩))) :: t, h⟩ K) : RunL Γ ops ((⟨some d, .convert S D x, ty, ps, af, none⟩, c + 2) :: l) ⟨t, h⟩ K := by
  refine run_x (ext := True) rfl (by omega) (fun _ => trivial) fun a w ρ I hd => ?_
  have hX := I.ev x
  rw [hx] at hX
  have hX' : a.eval x = ρ k := hX
  have hr := row_view0 I hh
  have run : (execOp a.eval ⟨some d, .convert S D x, ty, ps, af, none⟩).run Γ.P w = .ok (.value (.string ⟨bs.toArray⟩)) w := by
    have h1 := run_rep_string (P := Γ.P) hr
    have h2 : ∃ q n cc, ρ k = .slice q n cc := rep_sl hr
    obtain ⟨q, n, cc, hq⟩ := h2
    rw [hq] at h1
    simp [execOp, hX', hq, run_convert_bytes_string w S D e q n cc hs he hD, h1]
  unfold XOk oN
  rw [run]
  exact ⟨_, hk, ⟨ρ, I.put (d := some d) (by simpa [dstOk] using hd) (Rep.raw _)⟩, fun _ => Ext.refl w⟩
end
end Go.Abs

/- A literal slice that is to grow: a row of ours. No condition. -/
namespace Go.Abs
open Go Go.RowKit Go.Eager
set_option linter.unusedVariables false
section
variable {Γ : Ctx} {σ : St} {ρ : Nat → Value} {a : Act} {w : World}
theorem ok_buildSliceO (I : Iv Γ σ ρ a w) {o : Oper} {t e n len d : Nat} {z : Value} {parts : Array (Nat × Operand)} {l : List SV} {K : St → Prop} (ho : o.op = .buildSlice t len parts) (hd : o.dst = some d) (hdn : d < Γ.n) (hf0 : σ.free d = true) (hi0 : Γ.inn d = none)
    (he : elOf Γ.P t = some (e, n)) (hz : zeroOf Γ.P e = some z) (hn : 0 < n) (hlen : len = parts.size) (hbig : len * n ≤ 16777216) (hp : litParts 0 parts.toList = true)
    (hl : parts.toList.map (fun p => σ.ev p.2) = l.map LV.sv) (h1 : ∀ s ∈ l, ((∃ c, s = .agg c) ∨ s.one = true) ∧ s.cells.length = n)
    (hk : K ⟨(d, .own d) :: σ.t, ins d (.row n e l) σ.h⟩) : XOk Γ a w o True K := by
  obtain ⟨hu, hs⟩ := elOf_spec he
  have hz' : (zeroValue e).run Γ.P w = .ok z w := by
    unfold zeroOf at hz
    cases hi : Γ.P.info? e with
    | none => simp [hi] at hz
    | some i => simp [hi] at hz; simp [zeroValue, typeInfo, hi, hz]
  have hll : l.length = len := by have := congrArg List.length hl; simp at this; omega
  let vs := parts.toList.map fun p => a.eval p.2
  have hvs : ∀ (i : Nat) (s : SV), l[i]? = some s → ∃ v, vs[i]? = some v ∧ Rep w (Own Γ σ.h ρ) s v := by
    intro i s hi
    have h2 : (parts.toList.map fun p => σ.ev p.2)[i]? = some (.sv s) := by rw [hl, List.getElem?_map, hi]; rfl
    rw [List.getElem?_map] at h2
    cases hp2 : parts.toList[i]? with
    | none => simp [hp2] at h2
    | some p =>
      simp only [hp2, Option.map_some, Option.some.injEq] at h2
      refine ⟨a.eval p.2, by simp [vs, List.getElem?_map, hp2], ?_⟩
      have := I.ev p.2
      rw [h2] at this
      exact this
  have hvl : vs.length = len := by simp [vs]; omega
  have hcs : ∀ v ∈ vs, v.cells.size = n := by
    intro v hv
    obtain ⟨i, hi⟩ := List.getElem?_of_mem hv
    have hlt : i < l.length := by rw [hll, ← hvl]; exact (List.getElem?_eq_some_iff.1 hi).1
    obtain ⟨v', hv', hr⟩ := hvs i l[i] (List.getElem?_eq_getElem hlt)
    rw [hi] at hv'
    cases hv'
    have h3 := h1 l[i] (List.getElem_mem hlt)
    rw [(sv_cells hr h3.1).1]; exact h3.2
  let cs0 : Array Value := (Array.range (len * n)).map (z.cells[· % z.cells.size]!)
  obtain ⟨out, hf, hos, _, hcell⟩ := fill_rows n vs 0 cs0 hcs (by simp [cs0, hvl])
  have hparts : (parts.map fun p => (p.1, a.eval p.2)).toList = (vs.zipIdx 0).map fun p => (p.2, p.1) := by
    rw [Array.toList_map]; exact litParts_spec a.eval parts.toList 0 hp
  have run : (execOp a.eval o).run Γ.P w = .ok (.value (.slice (some ⟨w.heap.size, 0, none⟩) len len)) (w.alloc (.cells out e)) := by
    have hb : ¬ (16777216 < len * n) := by omega
    by_cases h0 : len * n = 0
    · have hl0 : len = 0 := by rcases Nat.mul_eq_zero.1 h0 with h | h <;> omega
      have hcs0 : cs0 = #[] := by simp [cs0, h0]
      have hf' : Instr.fill (fun i => some (i * n, n)) #[] (parts.map fun p => (p.1, a.eval p.2)).toList = some out := by rw [hparts, ← hcs0]; exact hf
      simp only [Array.toList_map] at hf'
      simp [execOp, ho, Instr.buildSlice, run_underlying hu, run_sizeOf hs, newRow, hf', hl0, show Array.range 0 = #[] from rfl]
    · have hf' : Instr.fill (fun i => some (i * n, n)) ((Array.range (len * n)).map (z.cells[· % z.cells.size]!)) (parts.map fun p => (p.1, a.eval p.2)).toList = some out := by rw [hparts]; exact hf
      simp only [Array.toList_map] at hf'
      simp [execOp, ho, Instr.buildSlice, run_underlying hu, run_sizeOf hs, hb, h0, hz', newRow, hf']
  unfold XOk oN
  rw [run]
  have hx := alloc_ext w (.cells out e)
  have hmax : len ≤ maxLen := by
    have : len ≤ len * n := Nat.le_mul_of_pos_right _ hn
    unfold maxLen; omega
  have hE : ERep (w.alloc (.cells out e)) (Own Γ (ins d (.row n e l) σ.h) (upd ρ d (.slice (some ⟨w.heap.size, 0, none⟩) len len))) (upd ρ d (.slice (some ⟨w.heap.size, 0, none⟩) len len)) d (.row n e l) := by
    have kp : Kp w (Own Γ σ.h ρ) (w.alloc (.cells out e)) (Own Γ (ins d (.row n e l) σ.h) (upd ρ d (.slice (some ⟨w.heap.size, 0, none⟩) len len))) := by
      intro b hb hno
      refine ⟨hx.block b hb, ?_⟩
      rintro (hO | ⟨k, e', hk', hb'⟩)
      · exact hno (.inl hO)
      · rw [lookup_ins] at hk'
        by_cases hkd : k = d
        · subst hkd; rw [upd_at] at hb'; simp [blk] at hb'; omega
        · rw [if_neg hkd] at hk'; rw [upd_ne _ _ hkd] at hb'; exact hno (.inr ⟨k, e', hk', hb'⟩)
    refine ⟨hn, out.toList, fun i => vs.getD i undef, ⟨by simp [hos, cs0, hll], .inr ⟨w.heap.size, len, out, by rw [upd_at, hll], Nat.zero_le _, heap_alloc_new w _, by omega, hmax, by rw [hos]; simp [cs0], List.take_of_length_le (by rw [Array.length_toList, hos, hll]; simp [cs0])⟩⟩, fun i s hi => ?_⟩
    obtain ⟨v, hv, hr⟩ := hvs i s hi
    have hvd : (fun i => vs.getD i undef) i = v := by show vs.getD i undef = v; rw [List.getD_eq_getElem?_getD, hv]; rfl
    rw [hvd]
    refine ⟨Rep.kp hr kp, hcs v (List.mem_of_getElem? hv), fun j u hu => ?_⟩
    have hjn : j < n := by
      have := hcs v (List.mem_of_getElem? hv)
      have h2 := (Array.getElem?_eq_some_iff.1 hu).1
      omega
    have h3 := hcell i v hv j hjn
    rw [Nat.zero_add] at h3
    rw [Array.getElem?_toList, h3]; exact hu
  have I' := I.fresh (k := d) (e := .row n e l) (v' := .slice (some ⟨w.heap.size, 0, none⟩) len len) (o := .cells out e) hf0 hi0 rfl hE
  refine ⟨_, hk, ⟨upd ρ d (.slice (some ⟨w.heap.size, 0, none⟩) len len), ?_⟩, fun _ => hx⟩
  rw [hd]
  exact I'.put (d := some d) (lv := .own d) (v := .slice (some ⟨w.heap.size, 0, none⟩) len len) (by simpa using hdn) (upd_at _ _ _).symm
end
section
variable {Γ : Ctx} {ops : Array Oper} {l : List (Oper × Nat)} {t : List (Nat × LV)} {h : List (Nat × Ent)} {K : St → Prop} {c d ty : Nat} {ps : String} {af : Array Edge} {x : Operand}
/-- A literal slice of one element, that is to grow. -/
theorem q_lito1 {S e n : Nat} (z : Value) (s : SV) (he : elOf Γ.P S = some (e, n)) (hz : zeroOf Γ.P e = some z) (hn : 0 < n) (hbig : n ≤ 16777216) (hf : St.free ⟨t, h⟩ d = true) (hi : Γ.inn d = none) (hx : St.ev ⟨t, h⟩ x = .sv s) (h1 : (∃ c, s = .agg c) ∨ s.one = true) (h2 : s.cells.length = n)
    (hk : RunL Γ ops l ⟨(d, .own d) :: t, ins d (.row n e [s]) h⟩ K) : RunL Γ ops ((⟨some d, .buildSlice S 1 #[(0, x)], ty, ps, af, none⟩, c + 2) :: l) ⟨t, h⟩ K :=
  run_x (ext := True) rfl (by omega) (fun _ => trivial) fun _ _ _ I hd => ok_buildSliceO (l := [s]) I rfl rfl (by simpa [dstOk] using hd) hf hi he hz hn rfl (by omega) rfl (by simp [hx]) (by simp; exact ⟨h1, h2⟩) hk
end
end Go.Abs

/- strings.Join and what the library says of rows, as what a function says of plain values. No condition beyond the lengths. -/
namespace Go.Abs
open Go Go.RowKit Go.Eager Go.Shelf Go.Proofs
set_option linter.unusedVariables false
theorem ext_below {w w' : World} (h : Below w.heap.size w w') : Ext w w' := ⟨h.os, h.tape, h.output, h.size, h.block⟩
theorem pfn_join {P : Program} {ρ : Ren} (L : Lays.n156 P ρ) (X : Builder.Extra P ρ) (xs : List ByteArray) (sep : ByteArray) (hN : xs.length ≤ 140737488355328)
    (hlen : (Lib.join (xs.map (·.data.toList)) sep.data.toList).length ≤ 281474976710656) :
    PFn P (ρ.f 156) [.sl 1 (xs.map fun x => .raw (.string x)), .raw (.string sep)] (.raw (.string ⟨(Lib.join (xs.map (·.data.toList)) sep.data.toList).toArray⟩)) := by
  intro w O vs hO hsz hr
  obtain ⟨v0, v1, rfl⟩ : ∃ v0 v1, vs = #[v0, v1] := by
    match vs, hsz with
    | ⟨[a, b]⟩, _ => exact ⟨a, b, rfl⟩
  have h0 := hr 0 _ v0 rfl rfl
  have h1 := rep_raw' (hr 1 _ v1 rfl rfl)
  subst h1
  generalize hl : (xs.map fun x => SV.raw (.string x)) = l at h0
  cases h0 with
  | nil sz a c =>
    have hx : xs = [] := by cases xs with | nil => rfl | cons b bs => simp at hl
    subst hx
    exact (Any.strings_Join_none L X a c sep w).mono fun e w' ⟨he, hw⟩ => ⟨_, he, hw ▸ Ext.refl w, Rep.raw _⟩
  | sl sz l b off c vals hb hl' hc hz h1 h2 h3 =>
    have hlen' : l.length = xs.length := by rw [← hl]; simp
    have hv : ∀ j x, xs[j]? = some x → w.cell? ⟨b, off + j, none⟩ = some (.string x) := by
      intro i x hi
      have h4 := h1 i (.raw (.string x)) (by rw [← hl, List.getElem?_map, hi]; rfl)
      have h5 := rep_raw' h4
      have h6 := h3 i (by rw [hlen']; exact (List.getElem?_eq_some_iff.1 hi).1) 0 (.string x) (by rw [h5]; rfl)
      simpa using h6
    rw [hlen']
    have hbk : b < w.heap.size := by
      obtain ⟨x, hx⟩ : ∃ x, xs[0]? = some x := ⟨_, List.getElem?_eq_getElem (by omega)⟩
      exact World.block_lt_of_cell? w _ (hv 0 x hx)
    exact (Any.strings_Join_48 L X b off c xs sep w hv hbk hN (by omega) hlen).mono fun e w' ⟨he, hb⟩ => ⟨_, he, ext_below hb, Rep.raw _⟩
end Go.Abs

/- Calls that hand back a row of their own; the rest of a row of ours, and a copy within it; a row that the library puts in order. No condition. -/
namespace Go.Abs
open Go Go.RowKit Go.Eager
set_option linter.unusedVariables false

/-- A function that hands back a row of its own. -/
def PFnO (P : Program) (f : FuncId) (args : List SV) (n T : Nat) (l : List SV) : Prop :=
  ∀ (w : World) (O : Nat → Prop) (vs : Array Value), (∀ b, O b → b < w.heap.size) → vs.size = args.length →
    (∀ (i : Nat) (s : SV) (u : Value), args[i]? = some s → vs[i]? = some u → Rep w O s u) →
    Calls P f vs w fun e w' => ∃ v, e = .returned v ∧ Ext w w' ∧ 0 < n ∧ ∃ (xs : List Value) (vals : Nat → Value), w'.ownsRow w.heap.size T n v l.length xs ∧
      ∀ (i : Nat) (s : SV), l[i]? = some s → Rep w' (fun b => O b ∨ blk v = some b) s (vals i) ∧ (vals i).cells.size = n ∧ ∀ (j : Nat) (u : Value), (vals i).cells[j]? = some u → xs[i * n + j]? = some u

section
variable {Γ : Ctx} {σ : St} {ρ : Nat → Value} {a : Act} {w : World}
theorem owns_zero {w : World} {B e n : Nat} {v : Value} {m : Nat} {xs : List Value} (h : w.ownsRow B e n v m xs) : w.ownsRow 0 e n v m xs :=
  ⟨h.1, h.2.imp id fun ⟨g, cap, cur, h1, _, h3⟩ => ⟨g, cap, cur, h1, Nat.zero_le _, h3⟩⟩
theorem owns_blk {w : World} {B e n : Nat} {v : Value} {m b : Nat} {xs : List Value} (h : w.ownsRow B e n v m xs) (hb : blk v = some b) : B ≤ b ∧ b < w.heap.size := by
  rcases h.2 with ⟨rfl, _⟩ | ⟨g, cap, cur, rfl, h2, h3, _⟩
  · simp [blk] at hb
  · simp [blk] at hb; subst hb
    exact ⟨h2, (Array.getElem?_eq_some_iff.1 h3).1⟩
theorem ok_callo (I : Iv Γ σ ρ a w) {o : Oper} {f : FuncId} {fn : Func} {args : Array Operand} {ts : Array TypeId} {sa : List SV} {n T d : Nat} {l : List SV} {K : St → Prop}
    (ho : o.op = .call { callee := .value (.func f), args := args, argTypes := ts }) (hd : o.dst = some d) (hdn : d < Γ.n) (hf : Γ.P.funcs[f]? = some fn) (hname : (fn.name == "runtime.NumGoroutine") = false) (hb : fn.body.isNone = false)
    (ha : args.toList.map σ.ev = sa.map LV.sv) (hfr : σ.free d = true) (hi : Γ.inn d = none) (hc : PFnO Γ.P f sa n T l) (hk : K ⟨(d, .own d) :: σ.t, ins d (.row n T l) σ.h⟩) : XOk Γ a w o True K := by
  have hrun : (execOp a.eval o).run Γ.P w = .ok (.enter f (args.map a.eval)) w := by
    have hY : a.eval (.func f) = .func (.func f) #[] #[] := rfl
    simp [execOp, ho, resolve, hY, Deferred.ofValue, invoke, run_callFunc hf hname hb]
  have hsz : (args.map a.eval).size = sa.length := by have := congrArg List.length ha; simp at this; simp [this]
  obtain ⟨f1, f2, f3⟩ := free_spec hfr
  unfold XOk oN
  rw [hrun]
  refine (hc w (Own Γ σ.h ρ) (args.map a.eval) (fun b hb => blk_lt I hb) hsz fun i s u hi' hu => ?_).mono ?_
  · have h3 : (args.toList.map σ.ev)[i]? = some (.sv s) := by rw [ha, List.getElem?_map, hi']; rfl
    rw [Array.getElem?_map] at hu
    rw [List.getElem?_map] at h3
    cases hx : args[i]? with
    | none => simp [hx] at hu
    | some x =>
      have hx' : args.toList[i]? = some x := by simpa using hx
      simp only [hx', Option.map_some, Option.some.injEq] at h3
      simp only [hx, Option.map_some, Option.some.injEq] at hu
      subst hu
      have := I.ev x
      rw [h3] at this
      exact this
  · rintro e w' ⟨v, he, hx, hn, xs, vals, hrow, hel⟩
    have I' : Iv Γ ⟨σ.t, ins d (.row n T l) σ.h⟩ (upd ρ d v) a w' := I.heap (fun t lv h => .inl h) (.inr ⟨f1, fun k1 e1 _ => f2 k1 e1⟩) ⟨hx.os, hx.tape, hx.output, hx.size⟩ (fun b hb _ => hx.block b hb)
      (fun b hb => ⟨(owns_blk hrow hb).2, .inl (owns_blk hrow hb).1⟩) (by rw [hi]; intro v h; cases h)
      ⟨hn, xs, vals, by rw [upd_at]; exact owns_zero hrow, fun i s his => by
        obtain ⟨h1, h2, h3⟩ := hel i s his
        refine ⟨Rep.kp h1 (fun b hb hno => ⟨rfl, ?_⟩), h2, h3⟩
        rintro (hO | ⟨k1, e1, hk1, hb1⟩)
        · exact hno (.inl (.inl hO))
        · rw [lookup_ins] at hk1
          by_cases hkk : k1 = d
          · subst hkk; rw [upd_at] at hb1; exact hno (.inr hb1)
          · rw [if_neg hkk] at hk1; rw [upd_ne _ _ hkk] at hb1; exact hno (.inl (.inr ⟨k1, e1, hk1, hb1⟩))⟩
    refine ⟨v, he, _, hk, ⟨upd ρ d v, ?_⟩, fun _ => hx⟩
    rw [hd]
    exact I'.put (d := some d) (lv := .own d) (v := v) (by simpa using hdn) (upd_at _ _ _).symm
/-- A row of ours, turned in place: the entry anew. -/
theorem Iv.turn (I : Iv Γ σ ρ a w) {k : Nat} {e e0 : Ent} {w' : World} (hk : σ.h.lookup k = some e0) (ho : w'.os = w.os ∧ w'.tape = w.tape ∧ w'.output = w.output ∧ w.heap.size ≤ w'.heap.size)
    (hw : ∀ b, b < w.heap.size → blk (ρ k) ≠ some b → w'.heap[b]? = w.heap[b]?) (he : ERep w' (Own Γ (ins k e σ.h) ρ) ρ k e) : Iv Γ ⟨σ.t, ins k e σ.h⟩ ρ a w' := by
  have h := I.heap (t' := σ.t) (k := k) (e := e) (v' := ρ k) (w' := w') (fun t lv h => .inl h) (.inl rfl) ho (fun b hb hne => hw b hb (hne e0 hk))
    (fun b' hb' => ⟨Nat.lt_of_lt_of_le (I.new k e0 b' hk hb').2 ho.2.2.2, .inr ⟨e0, hk, hb'⟩⟩) (fun v hv => I.inn k v hv) (by rw [upd_self]; exact he)
  rw [upd_self] at h
  exact h
/-- The rest of a row of ours. -/
theorem ok_sliceo (I : Iv Γ σ ρ a w) {o : Oper} {x lo : Operand} {t k n T e : Nat} {kk : IntKind} {p : Int} {l : List SV} (ho : o.op = .slice t x (some lo) none none) (he : elOf Γ.P t = some (e, n))
    (hx : σ.ev x = .own k) (hk : σ.h.lookup k = some (.row n T l)) (hl : 0 < l.length) (hlo : σ.ev lo = .sv (.raw (.int kk p))) (h0 : 0 ≤ p) (h1 : p ≤ l.length) :
    ∃ v, LRep w (Own Γ σ.h ρ) ρ (.osub k n p.toNat) v ∧ ∀ w', (execOp a.eval o).run Γ.P w' = .ok (.value v) w' := by
  obtain ⟨hu, hs⟩ := elOf_spec he
  have hX : a.eval x = ρ k := by have := I.ev x; rw [hx] at this; exact this
  obtain ⟨hz, xs, vals, hown, hrep⟩ := I.ent k _ hk
  rcases hown.2 with ⟨_, h⟩ | ⟨g, cap, cur, hv, _, hg, hcap, _⟩
  · omega
  · have hadd : ∀ m, (⟨g, 0, none⟩ : Addr).add m = ⟨g, m, none⟩ := fun m => by rw [addr_add, Nat.zero_add]
    refine ⟨.slice (if cap = p.toNat then some ⟨g, 0, none⟩ else some ⟨g, p.toNat * n, none⟩) (l.length - p.toNat) (cap - p.toNat), ⟨g, l.length, cap, hv, rfl⟩, fun w' => ?_⟩
    have hb := bounds_run (b := true) (n := l.length) (cap := cap) (lo := some lo) (hi := none) (l := p) (h := l.length) I (.inr ⟨lo, kk, rfl, hlo⟩) (.inl ⟨rfl, rfl⟩) h0 h1 (Int.le_refl _) hcap w'
    simp only [Option.map_some, Option.map_none, Int.toNat_natCast] at hb
    simp [execOp, ho, hX, hv, Instr.sliceAt, Instr.slice, run_underlying hu, hb, run_sizeOf hs, hadd]
/-- A list, behind a copy of its elements from j on to the places from i on. -/
def cpy {α : Type} (l : List α) (i j : Nat) : List α := l.take i ++ (l.drop j).take (l.length - i) ++ l.drop (i + ((l.drop j).take (l.length - i)).length)
theorem cpy_len {α : Type} (l : List α) (i j : Nat) (hi : i ≤ l.length) : (cpy l i j).length = l.length := by
  unfold cpy; simp only [List.length_append, List.length_take, List.length_drop]; omega
theorem cpy_get {α : Type} (l : List α) (i j : Nat) (hi : i ≤ l.length) (t : Nat) : (cpy l i j)[t]? = if i ≤ t ∧ t < i + ((l.drop j).take (l.length - i)).length then l[j + (t - i)]? else l[t]? := by
  unfold cpy
  generalize hm : ((l.drop j).take (l.length - i)).length = m
  have hm' : m = min (l.length - i) (l.length - j) := by rw [← hm, List.length_take, List.length_drop]
  have hl1 : (l.take i).length = i := by rw [List.length_take]; omega
  have hl2 : (l.take i ++ (l.drop j).take (l.length - i)).length = i + m := by rw [List.length_append, hl1, hm]
  by_cases h1 : t < i
  · rw [if_neg (by omega), List.append_assoc, List.getElem?_append_left (by omega), List.getElem?_take, if_pos h1]
  · by_cases h2 : t < i + m
    · rw [if_pos ⟨by omega, h2⟩, List.getElem?_append_left (by omega), List.getElem?_append_right (by omega), List.getElem?_take, hl1, if_pos (by omega), List.getElem?_drop]
    · rw [if_neg (by omega), List.getElem?_append_right (by omega), List.getElem?_drop, hl2]
      congr 1
      omega
end
section
variable {Γ : Ctx} {ops : Array Oper} {l : List (Oper × Nat)} {t : List (Nat × LV)} {h : List (Nat × Ent)} {K : St → Prop} {c d ty : Nat} {ps : String} {af : Array Edge} {x y : Operand}
theorem q_callo {f : Nat} {args : Array Operand} {ts : Array Nat} {sa : List SV} {n T : Nat} {r : List SV} (hc : PFnO Γ.P f sa n T r) (hcl : Calb Γ.P f)
    (ha : args.toList.map (St.ev ⟨t, h⟩) = sa.map LV.sv) (hf : St.free ⟨t, h⟩ d = true) (hi : Γ.inn d = none) (hk : RunL Γ ops l ⟨(d, .own d) :: t, ins d (.row n T r) h⟩ K) :
    RunL Γ ops ((⟨some d, .call { callee := .value (.func f), args := args, argTypes := ts }, ty, ps, af, none⟩, c + 2) :: l) ⟨t, h⟩ K :=
  let ⟨_, hf', hname, hb⟩ := hcl
  run_x (ext := True) rfl (by omega) (fun _ => trivial) fun _ _ _ I hd => ok_callo I rfl rfl (by simpa [dstOk] using hd) hf' hname hb ha hf hi hc hk
/-- The rest of a row of ours, from p on. -/
theorem q_slo {S k n T e : Nat} {kk : IntKind} {p : Int} {lo : Operand} {r : List SV} (he : elOf Γ.P S = some (e, n)) (hx : St.ev ⟨t, h⟩ x = .own k) (hh : h.lookup k = some (.row n T r)) (hr : 0 < r.length) (hlo : St.ev ⟨t, h⟩ lo = .sv (.raw (.int kk p))) (h0 : 0 ≤ p) (h1 : p ≤ r.length)
    (hk : RunL Γ ops l ⟨(d, .osub k n p.toNat) :: t, h⟩ K) : RunL Γ ops ((⟨some d, .slice S x (some lo) none none, ty, ps, af, none⟩, c) :: l) ⟨t, h⟩ K := by
  intro hd a w ⟨ρ, I⟩
  simp only [List.all_cons, Bool.and_eq_true] at hd
  obtain ⟨v, hv, hrun⟩ := ok_sliceo (o := ⟨some d, .slice S x (some lo) none none, ty, ps, af, none⟩) I rfl he hx hh hr hlo h0 h1
  have I' : Inv Γ ⟨(d, .osub k n p.toNat) :: t, h⟩ (a.put (some d) v) w := ⟨ρ, I.put (d := some d) (dstOk_spec hd.1) hv⟩
  unfold wpP
  split
  · exact ⟨v, .inl ⟨wanted_none rfl _, fun w' _ => hrun w'⟩, hk hd.2 _ _ I'⟩
  · rw [if_pos (wanted_none rfl _)]
    unfold oN
    rw [hrun w]
    exact ⟨fun _ => Ext.refl w, hk hd.2 _ _ I'⟩
end
end Go.Abs

/- A row of whole numbers of ours, put in order by the library. No condition. -/
namespace Go.Abs
open Go Go.RowKit Go.Eager Go.Sort
set_option linter.unusedVariables false
/-- What slices.Sort says at []int: the contract's own words. -/
def SortsInts (P : Program) (f : FuncId) : Prop :=
  ∀ (blk off cap : Nat) (zs : List Int) (w : World), Holds (Value.int .i64) w blk off zs.toArray → blk < w.heap.size → zs.length < 4611686018427387904 →
    Calls P f #[.slice (some ⟨blk, off, none⟩) zs.length cap] w fun e w' =>
      e = .returned (.tuple #[]) ∧ ∃ n os, w' = grow (putRow (Value.int .i64) (Sort.ahead w n) blk off (zs.mergeSort fun x y => decide (x ≤ y)).toArray) os
def srt (zs : List Int) : List Int := zs.mergeSort fun x y => decide (x ≤ y)
section
variable {Γ : Ctx} {σ : St} {ρ : Nat → Value} {a : Act} {w : World}
end
section
variable {Γ : Ctx} {ops : Array Oper} {l : List (Oper × Nat)} {t : List (Nat × LV)} {h : List (Nat × Ent)} {K : St → Prop} {c d ty : Nat} {ps : String} {af : Array Edge} {x y : Operand}
end
end Go.Abs

/- A function that hands back a row of its own. No condition. -/
namespace Go.Abs
open Go Go.RowKit Go.Eager
set_option linter.unusedVariables false
/-- The result is a row of ours; or nothing. -/
def endO (t n T : Nat) (l : List SV) : Exit → St → Prop
  | .normal, σ | .ret, σ => (∃ k, σ.ev (.tmp t) = .own k ∧ σ.h.lookup k = some (.row n T l)) ∨ (σ.ev (.tmp t) = .sv (.raw (.slice none 0 0)) ∧ l = [])
  | _, _ => False
theorem fno_ok_at {P : Program} {f : FuncId} {fn : Func} {c : Code} {args : List SV} {t n T : Nat} {l : List SV} (hz : 0 < n) (hf : P.funcs[f]? = some fn) (hb : fn.body = some c) (hrs : fn.results = #[.tmp t]) (hn : args.length ≤ fn.ntmps)
    (w : World) (O : Nat → Prop) (h : Ok { P := P, w0 := w, O := O, M := fun _ => False, inn := fun _ => none, n := fn.ntmps } c ⟨args.zipIdx.map fun p => (p.2, .sv p.1), []⟩ (endO t n T l)) (vs : Array Value) (hO : ∀ b, O b → b < w.heap.size) (hvs : vs.size = args.length)
    (hrep : ∀ (i : Nat) (s : SV) (u : Value), args[i]? = some s → vs[i]? = some u → Rep w O s u) : Calls P f vs w fun e w' => ∃ v, e = .returned v ∧ Ext w w' ∧ 0 < n ∧ ∃ (xs : List Value) (vals : Nat → Value), w'.ownsRow w.heap.size T n v l.length xs ∧
      ∀ (i : Nat) (s : SV), l[i]? = some s → Rep w' (fun b => O b ∨ blk v = some b) s (vals i) ∧ (vals i).cells.size = n ∧ ∀ (j : Nat) (u : Value), (vals i).cells[j]? = some u → xs[i * n + j]? = some u := by
  refine calls_of_wp hf hb ?_
  let Γ : Ctx := { P := P, w0 := w, O := O, M := fun _ => False, inn := fun _ => none, n := fn.ntmps }
  have hlk : ∀ (l : List SV) (k t : Nat) (lv : LV), ((l.zipIdx k).map fun p => (p.2, LV.sv p.1)).lookup t = some lv → ∃ s, l[t - k]? = some s ∧ lv = .sv s ∧ k ≤ t := by
    intro l
    induction l with
    | nil => intro k t lv h; simp at h
    | cons s l ih =>
      intro k t lv h
      simp only [List.zipIdx_cons, List.map_cons, List.lookup_cons] at h
      by_cases ht : t = k
      · subst ht; simp at h; exact ⟨s, by simp, h.symm, Nat.le_refl _⟩
      · have : (t == k) = false := by simpa using ht
        simp only [this] at h
        obtain ⟨s', h1, h2, h3⟩ := ih (k + 1) t lv h
        refine ⟨s', ?_, h2, by omega⟩
        rw [show t - k = (t - (k + 1)) + 1 by omega]; simpa using h1
  have I : Inv Γ ⟨args.zipIdx.map fun p => (p.2, .sv p.1), []⟩ { tmps := vs ++ Array.replicate (fn.ntmps - vs.size) undef, defers := [] } w := by
    refine ⟨fun _ => undef, ⟨rfl, by simp [Γ]; omega, ⟨rfl, rfl, rfl, Nat.le_refl _, fun _ _ _ => rfl⟩, ?_, ?_, ?_, ?_, fun b hb => ⟨hO b hb, fun h => h⟩, ?_⟩⟩
    · intro t lv ht
      obtain ⟨s, h1, rfl, _⟩ := hlk args 0 t lv ht
      have hlt : t < vs.size := by rw [hvs]; simpa using (List.getElem?_eq_some_iff.1 h1).1
      have hu : vs[t]? = some vs[t] := Array.getElem?_eq_getElem hlt
      have h2 := hrep t s _ (by simpa using h1) hu
      have h3 : (vs ++ Array.replicate (fn.ntmps - vs.size) undef).getD t undef = vs[t] := by
        rw [Array.getD_eq_getD_getElem?, Array.getElem?_append_left hlt, hu]; rfl
      show Rep w _ s _
      rw [h3]
      exact Rep.kp h2 fun b _ hno => ⟨rfl, fun h => by
        rcases h with h | ⟨k, e, hk, _⟩
        · exact hno h
        · simp at hk⟩
    · intro k e hk; simp at hk
    · intro k e b hk; simp at hk
    · intro k k' e e' b hk; simp at hk
    · intro k v hv; simp [Γ] at hv
  refine wp_mono (h _ w I) ?_
  rintro e a' w' ⟨σ', hq, ρ, J⟩
  have hres : (results fn a'.tmps).run P w' = .ok (a'.tmps.getD t undef) w' := by
    unfold results
    rw [hrs]
    simp
  have fin : ((∃ k, σ'.ev (.tmp t) = .own k ∧ σ'.h.lookup k = some (.row n T l)) ∨ (σ'.ev (.tmp t) = .sv (.raw (.slice none 0 0)) ∧ l = [])) →
      a'.defers = [] ∧ ∃ v, (results fn a'.tmps).run P w' = .ok v w' ∧ ∃ v', Ending.returned v = .returned v' ∧ Ext w w' ∧ 0 < n ∧ ∃ (xs : List Value) (vals : Nat → Value), w'.ownsRow w.heap.size T n v' l.length xs ∧
      ∀ (i : Nat) (s : SV), l[i]? = some s → Rep w' (fun b => O b ∨ blk v' = some b) s (vals i) ∧ (vals i).cells.size = n ∧ ∀ (j : Nat) (u : Value), (vals i).cells[j]? = some u → xs[i * n + j]? = some u := by
    have hext : Ext w w' := ⟨J.frm.os, J.frm.tape, J.frm.output, J.frm.size, fun b hb => J.frm.block b hb (fun h => h)⟩
    rintro (⟨k, h1, h2⟩ | ⟨h1, rfl⟩)
    · have hv : a'.tmps.getD t undef = ρ k := by have := J.ev (.tmp t); rw [h1] at this; exact this
      obtain ⟨hz', xs, vals, hown, hel⟩ := J.ent k _ h2
      refine ⟨J.dfr, _, hres, _, rfl, hext, hz, xs, vals, ?_, fun i s hi => ?_⟩
      · rw [hv]
        refine ⟨hown.1, ?_⟩
        rcases hown.2 with h | ⟨g, cap, cur, e1, _, e3⟩
        · exact .inl h
        · refine .inr ⟨g, cap, cur, e1, ?_, e3⟩
          rcases (J.new k _ g h2 (by rw [e1]; rfl)).1 with h | h
          · exact h
          · exact h.elim
      · obtain ⟨r1, r2, r3⟩ := hel i s hi
        refine ⟨r1.kp (fun b hb hno => ⟨rfl, ?_⟩), r2, r3⟩
        rintro (h | h)
        · exact hno (.inl h)
        · rw [hv] at h; exact hno (.inr ⟨k, _, h2, h⟩)
    · have hv : a'.tmps.getD t undef = .slice none 0 0 := ev_raw ⟨J.dfr, J.size, J.frm, J.tmp, J.ent, J.new, J.sep, J.out, J.inn⟩ h1
      refine ⟨J.dfr, _, hres, _, rfl, hext, hz, [], fun _ => undef, ?_, fun i s hi => by simp at hi⟩
      rw [hv]
      exact World.ownsRow_nil w' _ T n
  cases e with
  | normal => exact fin hq
  | ret => exact fin hq
  | _ => exact hq.elim
/-- **A function that hands back a row of its own**, at a frame written out. -/
theorem fno_ok {P : Program} {f : FuncId} {fn : Func} {c : Code} {args : List SV} {t n T m : Nat} {l : List SV} {t0 : List (Nat × LV)} (hz : 0 < n) (hf : P.funcs[f]? = some fn) (hb : fn.body = some c) (hrs : fn.results = #[.tmp t]) (hnt : fn.ntmps = m) (hn : args.length ≤ m)
    (ht : (args.zipIdx.map fun p => (p.2, LV.sv p.1)) = t0) (h : ∀ w0 O, Ok (ctx P w0 O m) c ⟨t0, []⟩ (endO t n T l)) : PFnO P f args n T l := by
  subst hnt ht
  intro w O
  refine fno_ok_at hz hf hb hrs hn w O (h w O)
end Go.Abs

/- Values whose rows stand apart: copies, handed back. No condition. -/
namespace Go.Abs
open Go Go.RowKit Go.Eager
set_option linter.unusedVariables false
/-- A block that one of the zones in a value holds. -/
inductive Zn (b : Nat) : SV → Prop
  | tr (Z : Nat → Prop) (s : SV) (v : Value) (h : Z b) : Zn b (.tr Z s v)
  | agg (l : List SV) (s : SV) (hs : s ∈ l) (h : Zn b s) : Zn b (.agg l)
  | tup (l : List SV) (s : SV) (hs : s ∈ l) (h : Zn b s) : Zn b (.tup l)
/-- r is s, its rows in zones, apart. -/
inductive Gd : SV → SV → Prop
  | raw (v : Value) : Gd (.raw v) (.raw v)
  | tr (Z : Nat → Prop) (n : Nat) (l : List SV) (v : Value) : Gd (.tr Z (.sl n l) v) (.sl n l)
  | agg (rs ss : List SV) (hn : rs.length = ss.length) (h : ∀ (i : Nat) (r s : SV), rs[i]? = some r → ss[i]? = some s → Gd r s)
      (hap : ∀ (i j b : Nat) (ri rj : SV), rs[i]? = some ri → rs[j]? = some rj → Zn b ri → Zn b rj → i = j) : Gd (.agg rs) (.agg ss)
theorem zn_raw {b : Nat} {v : Value} (h : Zn b (.raw v)) : False := by cases h
theorem zn_tr {b : Nat} {Z : Nat → Prop} {s : SV} {v : Value} (h : Zn b (.tr Z s v)) : Z b := by cases h; assumption
theorem zn_agg {b : Nat} {l : List SV} (h : Zn b (.agg l)) : ∃ s ∈ l, Zn b s := by cases h with | agg _ s hs h => exact ⟨s, hs, h⟩
theorem Rep.zn {w : World} {O : Nat → Prop} {b : Nat} {r : SV} (hb : Zn b r) : ∀ {v : Value}, Rep w O r v → b < w.heap.size ∧ ¬ O b := by
  induction hb with
  | tr Z s v h => intro v hr; cases hr with | tr _ _ _ hT hZ => exact hZ b h
  | agg l s hs h ih =>
    intro v hr
    cases hr with
    | agg _ vs hn h1 h2 =>
      obtain ⟨i, hi⟩ := List.getElem?_of_mem hs
      have hlt : i < vs.size := by rw [hn]; exact (List.getElem?_eq_some_iff.1 hi).1
      exact ih (h2 i s _ hi (Array.getElem?_eq_getElem hlt))
  | tup l s hs h ih =>
    intro v hr
    cases hr with
    | tup _ vs hn h2 =>
      obtain ⟨i, hi⟩ := List.getElem?_of_mem hs
      have hlt : i < vs.size := by rw [hn]; exact (List.getElem?_eq_some_iff.1 hi).1
      exact ih (h2 i s _ hi (Array.getElem?_eq_getElem hlt))
theorem Gd.tree {w : World} {O : Nat → Prop} {r s : SV} (g : Gd r s) : ∀ {v : Value}, Rep w O r v → Tree w (fun b => Zn b r) s v := by
  induction g with
  | raw v => intro v' h; cases h; exact .raw _ _
  | tr Z n l v => intro v h; cases h with | tr _ _ _ hT hZ => exact hT.mono fun b hb => .tr Z _ _ hb
  | agg rs ss hn h hap ih =>
    intro v hr
    cases hr with
    | agg _ vs hn' h1 h2 =>
      refine .agg _ ss vs (fun i d => ∃ r, rs[i]? = some r ∧ Zn d r) (by rw [hn', hn]) h1 (fun i s u hs hu => ?_) ?_ ?_
      · have hlt : i < rs.length := by rw [hn]; exact (List.getElem?_eq_some_iff.1 hs).1
        exact (ih i rs[i] s (List.getElem?_eq_getElem hlt) hs (h2 i rs[i] u (List.getElem?_eq_getElem hlt) hu)).mono fun b hb => ⟨_, List.getElem?_eq_getElem hlt, hb⟩
      · rintro i d ⟨r, hr, hd⟩
        exact .agg rs r (List.mem_of_getElem? hr) hd
      · rintro i j d ⟨r, hr, hd⟩ ⟨r', hr', hd'⟩
        exact hap i j d r r' hr hr' hd hd'
/-- A function that hands back what is P, new. -/
def PFnR (P : Program) (f : FuncId) (args : List SV) (R : SV → Prop) : Prop :=
  ∀ (w : World) (O : Nat → Prop) (vs : Array Value), (∀ b, O b → b < w.heap.size) → vs.size = args.length →
    (∀ (i : Nat) (s : SV) (u : Value), args[i]? = some s → vs[i]? = some u → Rep w O s u) →
    Calls P f vs w fun e w' => ∃ v r, e = .returned v ∧ Ext w w' ∧ R r ∧ (∀ b, Zn b r → w.heap.size ≤ b) ∧ Rep w' O r v
/-- A copy. -/
@[reducible] def PFnT (P : Program) (f : FuncId) (args : List SV) (s : SV) : Prop := PFnR P f args fun r => Gd r s
/-- Of all zones in slots and rows: another. -/
def Apart (t : List (Nat × LV)) (h : List (Nat × Ent)) (r : SV) : Prop :=
  (∀ k s b, t.lookup k = some (.sv s) → Zn b s → ¬ Zn b r) ∧ ∀ k n T l s b, h.lookup k = some (.row n T l) → s ∈ l → Zn b s → ¬ Zn b r
section
variable {Γ : Ctx} {σ : St} {ρ : Nat → Value} {a : Act} {w : World}
theorem apart_of (I : Iv Γ σ ρ a w) {r : SV} (hr : ∀ b, Zn b r → w.heap.size ≤ b) : Apart σ.t σ.h r := by
  refine ⟨fun k s b hk hb hb' => ?_, fun k n T l s b hk hs hb hb' => ?_⟩
  · have := (Rep.zn hb (I.tmp k _ hk)).1
    have := hr b hb'
    omega
  · obtain ⟨_, xs, vals, _, hel⟩ := I.ent k _ hk
    obtain ⟨i, hi⟩ := List.getElem?_of_mem hs
    have := (Rep.zn hb (hel i s hi).1).1
    have := hr b hb'
    omega
theorem ok_callr (I : Iv Γ σ ρ a w) {o : Oper} {f : FuncId} {fn : Func} {args : Array Operand} {ts : Array TypeId} {sa : List SV} {R : SV → Prop} {K : St → Prop}
    (ho : o.op = .call { callee := .value (.func f), args := args, argTypes := ts }) (hdn : dstOk Γ o = true) (hf : Γ.P.funcs[f]? = some fn) (hname : (fn.name == "runtime.NumGoroutine") = false) (hb : fn.body.isNone = false)
    (ha : args.toList.map σ.ev = sa.map LV.sv) (hc : PFnR Γ.P f sa R) (hk : ∀ r, R r → (∀ b, Zn b r → Γ.w0.heap.size ≤ b) → Apart σ.t σ.h r → K (σ.put o.dst (.sv r))) : XOk Γ a w o True K := by
  have hrun : (execOp a.eval o).run Γ.P w = .ok (.enter f (args.map a.eval)) w := by
    have hY : a.eval (.func f) = .func (.func f) #[] #[] := rfl
    simp [execOp, ho, resolve, hY, Deferred.ofValue, invoke, run_callFunc hf hname hb]
  have hsz : (args.map a.eval).size = sa.length := by have := congrArg List.length ha; simp at this; simp [this]
  unfold XOk oN
  rw [hrun]
  refine (hc w (Own Γ σ.h ρ) (args.map a.eval) (fun b hb => blk_lt I hb) hsz fun i s u hi' hu => ?_).mono ?_
  · have h3 : (args.toList.map σ.ev)[i]? = some (.sv s) := by rw [ha, List.getElem?_map, hi']; rfl
    rw [Array.getElem?_map] at hu
    rw [List.getElem?_map] at h3
    cases hx : args[i]? with
    | none => simp [hx] at hu
    | some x =>
      have hx' : args.toList[i]? = some x := by simpa using hx
      simp only [hx', Option.map_some, Option.some.injEq] at h3
      simp only [hx, Option.map_some, Option.some.injEq] at hu
      subst hu
      have := I.ev x
      rw [h3] at this
      exact this
  · rintro e w' ⟨v, r, he, hx, hR, hn, hv⟩
    exact ⟨v, he, _, hk r hR (fun b hb => Nat.le_trans I.frm.size (hn b hb)) (apart_of I hn), ⟨ρ, (I.ext hx).put (dstOk_spec hdn) hv⟩, fun _ => hx⟩
/-- A row of ours of good copies is a tree. -/
theorem row_tree (I : Iv Γ σ ρ a w) {k n T : Nat} {rs ss : List SV} (hk : σ.h.lookup k = some (.row n T rs)) (hl : rs.length = ss.length) (hg : ∀ (i : Nat) (r s : SV), rs[i]? = some r → ss[i]? = some s → Gd r s)
    (hap : ∀ (i j b : Nat) (ri rj : SV), rs[i]? = some ri → rs[j]? = some rj → Zn b ri → Zn b rj → i = j) :
    Tree w (fun b => blk (ρ k) = some b ∨ ∃ r ∈ rs, Zn b r) (.sl n ss) (ρ k) := by
  obtain ⟨hz, xs, vals, hown, hel⟩ := I.ent k _ hk
  rcases hown.2 with ⟨h1, h2⟩ | ⟨b, cap, cur, h1, _, hgb, hcap, hmax, hcs, htk⟩
  · have : ss = [] := List.eq_nil_of_length_eq_zero (by omega)
    rw [this, h1]; exact .nil _ _ _ _
  · have hbk : blk (ρ k) = some b := by rw [h1]; rfl
    by_cases h0 : rs.length = 0
    · have : ss = [] := List.eq_nil_of_length_eq_zero (by omega)
      rw [this, h1, h0]; exact .nil _ _ _ _
    · have hOb : Own Γ σ.h ρ b := .inr ⟨k, _, hk, hbk⟩
      rw [h1, hl]
      refine .sl _ n T ss b cap cur vals (fun i d => ∃ r, rs[i]? = some r ∧ Zn d r) (.inl rfl) (by omega) (by omega) hz hmax hcs hgb (fun i s hs => ?_) (fun i hi => ?_) (fun i hi j u hu => ?_) ?_ ?_
      · have hlt : i < rs.length := by rw [hl]; exact (List.getElem?_eq_some_iff.1 hs).1
        exact ((hg i rs[i] s (List.getElem?_eq_getElem hlt) hs).tree (hel i rs[i] (List.getElem?_eq_getElem hlt)).1).mono fun d hd => ⟨_, List.getElem?_eq_getElem hlt, hd⟩
      · exact (hel i rs[i] (List.getElem?_eq_getElem (by omega))).2.1
      · have hlt : i < rs.length := by omega
        have h3 := (hel i rs[i] (List.getElem?_eq_getElem hlt)).2.2 j u hu
        have hjn : j < n := by
          have h4 := (hel i rs[i] (List.getElem?_eq_getElem hlt)).2.1
          have := (Array.getElem?_eq_some_iff.1 hu).1
          omega
        have hlt2 : i * n + j < rs.length * n := by
          have : (i + 1) * n ≤ rs.length * n := Nat.mul_le_mul_right n hlt
          rw [Nat.add_mul, Nat.one_mul] at this
          omega
        rw [← htk, List.getElem?_take, if_pos hlt2, Array.getElem?_toList] at h3
        exact h3
      · rintro i d ⟨r, hr, hd⟩
        have hmem := List.mem_of_getElem? hr
        refine ⟨.inr ⟨r, hmem, hd⟩, fun e => ?_⟩
        exact (Rep.zn hd (hel i r hr).1).2 (e ▸ hOb)
      · rintro i j d ⟨r, hr, hd⟩ ⟨r', hr', hd'⟩
        exact hap i j d r r' hr hr' hd hd'
end
/-- Only blocks of Z are changed. -/
structure Chg (Z : Nat → Prop) (w w' : World) : Prop where
  os : w'.os = w.os
  tape : w'.tape = w.tape
  output : w'.output = w.output
  size : w.heap.size ≤ w'.heap.size
  block : ∀ b, b < w.heap.size → ¬ Z b → w'.heap[b]? = w.heap[b]?
/-- What a function says that writes into a tree. -/
def MarkC (P : Program) (f : FuncId) (s : SV) (k : Int) (R : Int → SV → Prop) : Prop :=
  ∀ (w : World) (Z : Nat → Prop) (v : Value), Tree w Z s v → (∀ b, Z b → b < w.heap.size) →
    Calls P f #[v, .int .i64 k] w fun e w' => ∃ k' s', e = .returned (.int .i64 k') ∧ R k' s' ∧ Chg Z w w' ∧ Tree w' Z s' v
/-- What becomes of a value when the tree s at v, in Z, has become s'. -/
inductive Mk (Z : Nat → Prop) (s s' : SV) (v : Value) : SV → SV → Prop
  | raw (u : Value) : Mk Z s s' v (.raw u) (.raw u)
  | same : Mk Z s s' v (.tr Z s v) (.tr Z s' v)
  | other (Z2 : Nat → Prop) (s2 : SV) (v2 : Value) (h : ∀ b, Z2 b → ¬ Z b) : Mk Z s s' v (.tr Z2 s2 v2) (.tr Z2 s2 v2)
  | agg (l l' : List SV) (hn : l'.length = l.length) (h : ∀ (i : Nat) (x x' : SV), l[i]? = some x → l'[i]? = some x' → Mk Z s s' v x x') : Mk Z s s' v (.agg l) (.agg l')
inductive MkL (Z : Nat → Prop) (s s' : SV) (v : Value) : LV → LV → Prop
  | sv {r r' : SV} (h : Mk Z s s' v r r') : MkL Z s s' v (.sv r) (.sv r')
  | av {Z2 : Nat → Prop} {s2 : SV} (h : ∀ b, Z b → Z2 b) : MkL Z s s' v (.av Z2 s2) (.av Z2 s2)
  | own {k : Nat} : MkL Z s s' v (.own k) (.own k)
  | ptr {k j : Nat} : MkL Z s s' v (.ptr k j) (.ptr k j)
  | dead {lv : LV} : MkL Z s s' v lv .dead
inductive MkE (Z : Nat → Prop) (s s' : SV) (v : Value) : Ent → Ent → Prop
  | box {c c' : List LV} (hn : c'.length = c.length) (h : ∀ (i : Nat) (x x' : LV), c[i]? = some x → c'[i]? = some x' → MkL Z s s' v x x') : MkE Z s s' v (.box c) (.box c')
  | row {n T : Nat} {l l' : List SV} (hn : l'.length = l.length) (h : ∀ (i : Nat) (x x' : SV), l[i]? = some x → l'[i]? = some x' → Mk Z s s' v x x') : MkE Z s s' v (.row n T l) (.row n T l')
def MkT (Z : Nat → Prop) (s s' : SV) (v : Value) : List (Nat × LV) → List (Nat × LV) → Prop
  | [], [] => True
  | (k, lv) :: t, (k', lv') :: t' => k = k' ∧ MkL Z s s' v lv lv' ∧ MkT Z s s' v t t'
  | _, _ => False
def MkH (Z : Nat → Prop) (s s' : SV) (v : Value) : List (Nat × Ent) → List (Nat × Ent) → Prop
  | [], [] => True
  | (k, e) :: t, (k', e') :: t' => k = k' ∧ MkE Z s s' v e e' ∧ MkH Z s s' v t t'
  | _, _ => False
theorem mkT_lookup {Z : Nat → Prop} {s s' : SV} {v : Value} {k : Nat} {lv' : LV} : ∀ {t t' : List (Nat × LV)}, MkT Z s s' v t t' → t'.lookup k = some lv' → ∃ lv, t.lookup k = some lv ∧ MkL Z s s' v lv lv'
  | [], [], _, h => by simp at h
  | [], _ :: _, h, _ => h.elim
  | _ :: _, [], h, _ => h.elim
  | (a, lv) :: t, (a', x) :: t', ⟨he, hm, ht⟩, h => by
    subst he
    rw [List.lookup_cons] at h ⊢
    cases hk : (k == a) with
    | true => simp only [hk, Option.some.injEq] at h ⊢; subst h; exact ⟨lv, rfl, hm⟩
    | false => simp only [hk] at h ⊢; exact mkT_lookup ht h
theorem mkH_lookup {Z : Nat → Prop} {s s' : SV} {v : Value} {k : Nat} {e' : Ent} : ∀ {t t' : List (Nat × Ent)}, MkH Z s s' v t t' → t'.lookup k = some e' → ∃ e, t.lookup k = some e ∧ MkE Z s s' v e e'
  | [], [], _, h => by simp at h
  | [], _ :: _, h, _ => h.elim
  | _ :: _, [], h, _ => h.elim
  | (a, lv) :: t, (a', x) :: t', ⟨he, hm, ht⟩, h => by
    subst he
    rw [List.lookup_cons] at h ⊢
    cases hk : (k == a) with
    | true => simp only [hk, Option.some.injEq] at h ⊢; subst h; exact ⟨lv, rfl, hm⟩
    | false => simp only [hk] at h ⊢; exact mkH_lookup ht h
theorem Mk.rep {Z : Nat → Prop} {s s' : SV} {v : Value} {w w' : World} {O O' : Nat → Prop} (hc : Chg Z w w') (hT : Tree w' Z s' v) (hZ : ∀ b, Z b → b < w.heap.size ∧ ¬ O b) (hO : ∀ b, b < w.heap.size → ¬ O b → ¬ O' b) {r r' : SV} (m : Mk Z s s' v r r') : ∀ {u : Value}, Rep w O r u → Rep w' O' r' u := by
  induction m with
  | raw x => intro u h; cases h; exact .raw _
  | same => intro u h; cases h with | tr _ _ _ h1 h2 => exact .tr Z s' v hT fun b hb => ⟨Nat.lt_of_lt_of_le (hZ b hb).1 hc.size, hO b (hZ b hb).1 (hZ b hb).2⟩
  | other Z2 s2 v2 hd =>
    intro u h
    cases h with
    | tr _ _ _ h1 h2 =>
      exact .tr Z2 s2 _ (h1.keep fun b hb => hc.block b (h2 b hb).1 (hd b hb)) fun b hb => ⟨Nat.lt_of_lt_of_le (h2 b hb).1 hc.size, hO b (h2 b hb).1 (h2 b hb).2⟩
  | agg l l' hn _ ih =>
    intro u h
    cases h with
    | agg _ vs hn' h1 h2 =>
      refine .agg l' vs (by rw [hn', hn]) h1 fun i x' y hx' hy => ?_
      have hlt : i < l.length := by rw [← hn]; exact (List.getElem?_eq_some_iff.1 hx').1
      exact ih i l[i] x' (List.getElem?_eq_getElem hlt) hx' (h2 i l[i] y (List.getElem?_eq_getElem hlt) hy)
section
variable {Γ : Ctx} {σ : St} {ρ : Nat → Value} {a : Act} {w : World}
theorem Iv.mark (I : Iv Γ σ ρ a w) {Z : Nat → Prop} {s s' : SV} {v : Value} {w' : World} {t' : List (Nat × LV)} {h' : List (Nat × Ent)} (hc : Chg Z w w') (hT : Tree w' Z s' v) (hZ : ∀ b, Z b → b < w.heap.size ∧ ¬ Own Γ σ.h ρ b)
    (hM : ∀ b, Z b → Γ.w0.heap.size ≤ b ∨ Γ.M b) (ht : MkT Z s s' v σ.t t') (hh : MkH Z s s' v σ.h h') : Iv Γ ⟨t', h'⟩ ρ a w' := by
  have hO : ∀ b, ¬ Own Γ σ.h ρ b → ¬ Own Γ h' ρ b := by
    rintro b hno (hb | ⟨k, e, hk, hb⟩)
    · exact hno (.inl hb)
    · obtain ⟨e0, hk0, _⟩ := mkH_lookup hh hk
      exact hno (.inr ⟨k, e0, hk0, hb⟩)
  have hL : ∀ {lv lv' : LV} {u : Value}, MkL Z s s' v lv lv' → LRep w (Own Γ σ.h ρ) ρ lv u → LRep w' (Own Γ h' ρ) ρ lv' u := by
    intro lv lv' u hm hr
    cases hm with
    | sv m => exact m.rep hc hT hZ (fun b _ h => hO b h) hr
    | @av Z2 s2 hs =>
      refine Rep.kp (O := fun b => Own Γ σ.h ρ b ∨ Z2 b) (O' := fun b => Own Γ h' ρ b ∨ Z2 b) hr fun b hb hno => ⟨hc.block b hb fun h => hno (.inr (hs b h)), ?_⟩
      exact fun h => h.elim (hO b fun h => hno (.inl h)) fun h => hno (.inr h)
    | own => exact hr
    | ptr => exact hr
    | dead => exact trivial
  have hblk : ∀ k e b, σ.h.lookup k = some e → blk (ρ k) = some b → w'.heap[b]? = w.heap[b]? := by
    intro k e b hk hb
    exact hc.block b (I.new k e b hk hb).2 fun h => (hZ b h).2 (.inr ⟨k, e, hk, hb⟩)
  refine ⟨I.dfr, I.size, ⟨hc.os.trans I.frm.os, hc.tape.trans I.frm.tape, hc.output.trans I.frm.output, Nat.le_trans I.frm.size hc.size, fun b hb hm => ?_⟩, ?_, ?_, ?_, ?_, I.out, I.inn⟩
  · refine (hc.block b (Nat.lt_of_lt_of_le hb I.frm.size) fun h => ?_).trans (I.frm.block b hb hm)
    rcases hM b h with h1 | h1
    · omega
    · exact hm h1
  · intro k lv' hk
    obtain ⟨lv, hk0, hm⟩ := mkT_lookup ht hk
    exact hL hm (I.tmp k lv hk0)
  · intro k e' hk
    obtain ⟨e, hk0, hm⟩ := mkH_lookup hh hk
    have he := I.ent k e hk0
    cases hm with
    | box hn hcs =>
      rename_i c c'
      obtain ⟨b, T, cur, h1, h2, h3, h4⟩ := he
      refine ⟨b, T, cur, h1, (hblk k _ b hk0 (by rw [h1]; rfl)).trans h2, by rw [h3, hn], fun j lv' u hj hu => ?_⟩
      have hlt : j < c.length := by rw [← hn]; exact (List.getElem?_eq_some_iff.1 hj).1
      exact ⟨hL (hcs j c[j] lv' (List.getElem?_eq_getElem hlt) hj) (h4 j c[j] u (List.getElem?_eq_getElem hlt) hu).1, (h4 j c[j] u (List.getElem?_eq_getElem hlt) hu).2⟩
    | row hn hcs =>
      rename_i n T l l'
      obtain ⟨hz, xs, vals, hown, hel⟩ := he
      refine ⟨hz, xs, vals, ?_, fun i x' hi => ?_⟩
      · rw [hn]
        refine ⟨hown.1, ?_⟩
        rcases hown.2 with h | ⟨g, cap, cur, e1, e2, e3, rest⟩
        · exact .inl h
        · exact .inr ⟨g, cap, cur, e1, e2, (hblk k _ g hk0 (by rw [e1]; rfl)).trans e3, rest⟩
      · have hlt : i < l.length := by rw [← hn]; exact (List.getElem?_eq_some_iff.1 hi).1
        obtain ⟨r1, r2, r3⟩ := hel i l[i] (List.getElem?_eq_getElem hlt)
        exact ⟨(hcs i l[i] x' (List.getElem?_eq_getElem hlt) hi).rep hc hT hZ (fun b _ h => hO b h) r1, r2, r3⟩
  · intro k e' b hk hb
    obtain ⟨e, hk0, _⟩ := mkH_lookup hh hk
    exact ⟨(I.new k e b hk0 hb).1, Nat.lt_of_lt_of_le (I.new k e b hk0 hb).2 hc.size⟩
  · intro k k' e e' b hk hk' hb hb'
    obtain ⟨e0, hk0, _⟩ := mkH_lookup hh hk
    obtain ⟨e1, hk1, _⟩ := mkH_lookup hh hk'
    exact I.sep k k' e0 e1 b hk0 hk1 hb hb'
end
section
variable {Γ : Ctx} {ops : Array Oper} {l : List (Oper × Nat)} {t : List (Nat × LV)} {h : List (Nat × Ent)} {K : St → Prop} {c d ty : Nat} {ps : String} {af : Array Edge} {x y : Operand}
/-- A call that hands back a copy, new. -/
theorem q_callr {f : Nat} {args : Array Operand} {ts : Array Nat} {sa : List SV} {R : SV → Prop} (hc : PFnR Γ.P f sa R) (hcl : Calb Γ.P f) (ha : args.toList.map (St.ev ⟨t, h⟩) = sa.map LV.sv)
    (hk : ∀ r, R r → (∀ b, Zn b r → Γ.w0.heap.size ≤ b) → Apart t h r → RunL Γ ops l ⟨(d, .sv r) :: t, h⟩ K) :
    RunL Γ ops ((⟨some d, .call { callee := .value (.func f), args := args, argTypes := ts }, ty, ps, af, none⟩, c + 2) :: l) ⟨t, h⟩ K :=
  let ⟨_, hf', hname, hb⟩ := hcl
  run_x (ext := True) rfl (by omega) (fun _ => trivial) fun _ _ _ I hd => ok_callr I rfl hd hf' hname hb ha hc hk
/-- A call that writes into a tree. -/
theorem q_mark {f : Nat} {ts : Array Nat} {Z : Nat → Prop} {s : SV} {v : Value} {k : Int} {R : Int → SV → Prop} (hc : MarkC Γ.P f s k R) (hcl : Calb Γ.P f) (hx : St.ev ⟨t, h⟩ x = .sv (.tr Z s v)) (hy : St.ev ⟨t, h⟩ y = .sv (.raw (.int .i64 k)))
    (hM : ∀ b, Z b → Γ.w0.heap.size ≤ b ∨ Γ.M b) (t' : SV → List (Nat × LV)) (h' : SV → List (Nat × Ent)) (ht : ∀ s', MkT Z s s' v t (t' s')) (hh : ∀ s', MkH Z s s' v h (h' s'))
    (hk : ∀ k' s', R k' s' → RunL Γ ops l ⟨(d, .sv (.raw (.int .i64 k'))) :: t' s', h' s'⟩ K) :
    RunL Γ ops ((⟨some d, .call { callee := .value (.func f), args := #[x, y], argTypes := ts }, ty, ps, af, none⟩, 2) :: l) ⟨t, h⟩ K := by
  obtain ⟨fn, hf', hname, hb⟩ := hcl
  refine run_x (ext := False) rfl (by omega) (fun h => (h rfl).elim) fun a w ρ I hd => ?_
  have hX := I.ev x
  rw [hx] at hX
  have hY : a.eval y = .int .i64 k := ev_raw I hy
  have hrun : (execOp a.eval ⟨some d, .call { callee := .value (.func f), args := #[x, y], argTypes := ts }, ty, ps, af, none⟩).run Γ.P w = .ok (.enter f #[a.eval x, .int .i64 k]) w := by
    have hF : a.eval (.func f) = .func (.func f) #[] #[] := rfl
    simp [execOp, resolve, hF, Deferred.ofValue, invoke, run_callFunc hf' hname hb, hY]
  unfold XOk oN
  rw [hrun]
  generalize a.eval x = u at hX hrun
  cases hX with
  | tr _ _ _ hT hZ =>
    refine (hc w Z v hT fun b hb => (hZ b hb).1).mono ?_
    rintro e w' ⟨k', s', he, hR, hC, hT'⟩
    exact ⟨_, he, _, hk k' s' hR, ⟨ρ, (I.mark hC hT' hZ hM (ht s') (hh s')).put (d := some d) (by simpa [dstOk] using hd) (Rep.raw _)⟩, fun h => h.elim⟩
end
end Go.Abs

/- Functions that hand back copies, functions that write into trees; calls whose arguments are trees. No condition. -/
namespace Go.Abs
open Go Go.RowKit Go.Eager
set_option linter.unusedVariables false
theorem Gd.rep {w : World} {O : Nat → Prop} {r s : SV} (g : Gd r s) {v : Value} (h : Rep w O r v) : Rep w O s v := (g.tree h).rep fun b hb => (Rep.zn hb h).2
/-- A function whose result is told by what it is; its results may lie in boxes. -/
theorem fnp_ok_at {P : Program} {f : FuncId} {fn : Func} {c : Code} {rs : List ResultVar} {args : List SV} {R : SV → Prop} (hf : P.funcs[f]? = some fn) (hb : fn.body = some c) (hrs : fn.results.toList = rs) (hn : args.length ≤ fn.ntmps)
    (w : World) (O : Nat → Prop) (h : Ok { P := P, w0 := w, O := O, M := fun _ => False, inn := fun _ => none, n := fn.ntmps } c ⟨args.zipIdx.map fun p => (p.2, .sv p.1), []⟩ (endR P rs fun l => R (tupSV l))) (vs : Array Value) (hO : ∀ b, O b → b < w.heap.size) (hvs : vs.size = args.length)
    (hrep : ∀ (i : Nat) (s : SV) (u : Value), args[i]? = some s → vs[i]? = some u → Rep w O s u) : Calls P f vs w fun e w' => ∃ v r, e = .returned v ∧ Ext w w' ∧ R r ∧ Rep w' O r v := by
  refine calls_of_wp hf hb ?_
  let Γ : Ctx := { P := P, w0 := w, O := O, M := fun _ => False, inn := fun _ => none, n := fn.ntmps }
  have hlk : ∀ (l : List SV) (k t : Nat) (lv : LV), ((l.zipIdx k).map fun p => (p.2, LV.sv p.1)).lookup t = some lv → ∃ s, l[t - k]? = some s ∧ lv = .sv s ∧ k ≤ t := by
    intro l
    induction l with
    | nil => intro k t lv h; simp at h
    | cons s l ih =>
      intro k t lv h
      simp only [List.zipIdx_cons, List.map_cons, List.lookup_cons] at h
      by_cases ht : t = k
      · subst ht; simp at h; exact ⟨s, by simp, h.symm, Nat.le_refl _⟩
      · have : (t == k) = false := by simpa using ht
        simp only [this] at h
        obtain ⟨s', h1, h2, h3⟩ := ih (k + 1) t lv h
        refine ⟨s', ?_, h2, by omega⟩
        rw [show t - k = (t - (k + 1)) + 1 by omega]; simpa using h1
  have I : Inv Γ ⟨args.zipIdx.map fun p => (p.2, .sv p.1), []⟩ { tmps := vs ++ Array.replicate (fn.ntmps - vs.size) undef, defers := [] } w := by
    refine ⟨fun _ => undef, ⟨rfl, by simp [Γ]; omega, ⟨rfl, rfl, rfl, Nat.le_refl _, fun _ _ _ => rfl⟩, ?_, ?_, ?_, ?_, fun b hb => ⟨hO b hb, fun h => h⟩, ?_⟩⟩
    · intro t lv ht
      obtain ⟨s, h1, rfl, _⟩ := hlk args 0 t lv ht
      have hlt : t < vs.size := by rw [hvs]; simpa using (List.getElem?_eq_some_iff.1 h1).1
      have hu : vs[t]? = some vs[t] := Array.getElem?_eq_getElem hlt
      have h2 := hrep t s _ (by simpa using h1) hu
      have h3 : (vs ++ Array.replicate (fn.ntmps - vs.size) undef).getD t undef = vs[t] := by
        rw [Array.getD_eq_getD_getElem?, Array.getElem?_append_left hlt, hu]; rfl
      show Rep w _ s _
      rw [h3]
      exact Rep.kp h2 fun b _ hno => ⟨rfl, fun h => by
        rcases h with h | ⟨k, e, hk, _⟩
        · exact hno h
        · simp at hk⟩
    · intro k e hk; simp at hk
    · intro k e b hk; simp at hk
    · intro k k' e e' b hk; simp at hk
    · intro k v hv; simp [Γ] at hv
  refine wp_mono (h _ w I) ?_
  rintro e a' w' ⟨σ', hq, ρ, J⟩
  have fin : (∃ l, ResL P σ' rs l ∧ R (tupSV l)) → a'.defers = [] ∧ ∃ v, (results fn a'.tmps).run P w' = .ok v w' ∧ ∃ v' r, Ending.returned v = .returned v' ∧ Ext w w' ∧ R r ∧ Rep w' O r v' := by
    rintro ⟨l, hl, hR⟩
    obtain ⟨vs', hv1, hv2, hv3⟩ := run_resl J hl fn hrs
    exact ⟨J.dfr, _, hv2, _, _, rfl, ⟨J.frm.os, J.frm.tape, J.frm.output, J.frm.size, fun b hb => J.frm.block b hb (fun h => h)⟩, hR, tup_rep hv1 hv3⟩
  cases e with
  | normal => exact fin hq
  | ret => exact fin hq
  | _ => exact hq.elim
theorem fnp_ok {P : Program} {f : FuncId} {fn : Func} {c : Code} {rs : List ResultVar} {args : List SV} {R : SV → Prop} {n : Nat} {t0 : List (Nat × LV)} (hf : P.funcs[f]? = some fn) (hb : fn.body = some c) (hrs : fn.results.toList = rs) (hnt : fn.ntmps = n) (hn : args.length ≤ n)
    (ht : (args.zipIdx.map fun p => (p.2, LV.sv p.1)) = t0) (h : ∀ w0 O, Ok (ctx P w0 O n) c ⟨t0, []⟩ (endR P rs fun l => R (tupSV l) ∧ ∀ b, Zn b (tupSV l) → w0.heap.size ≤ b)) : PFnR P f args R := by
  subst hnt ht
  intro w O vs hO hsz hr
  refine (fnp_ok_at (R := fun r => R r ∧ ∀ b, Zn b r → w.heap.size ≤ b) hf hb hrs hn w O (h w O) vs hO hsz hr).mono ?_
  rintro e w' ⟨v, r, h1, h2, ⟨h3, h4⟩, h5⟩
  exact ⟨v, r, h1, h2, h3, h4, h5⟩
/-- The row of ours k as a tree. -/
def tdT (k : Nat) (r : SV) (t : List (Nat × LV)) : List (Nat × LV) := t.map fun p => (p.1, match p.2 with | .own k' => if k' = k then .sv r else .own k' | lv => lv)
theorem tdT_lookup {k t : Nat} {r : SV} {lv : LV} : ∀ {ts : List (Nat × LV)}, (tdT k r ts).lookup t = some lv → ts.lookup t = some lv ∨ (ts.lookup t = some (.own k) ∧ lv = .sv r)
  | [], h => by simp [tdT] at h
  | (t', lv') :: ts, h => by
    simp only [tdT, List.map_cons, List.lookup_cons] at h ⊢
    by_cases ht : t = t'
    · subst ht
      simp only [BEq.rfl, Option.some.injEq] at h ⊢
      subst h
      split
      · rename_i k'
        by_cases hk : k' = k
        · subst hk; simp
        · simp [hk]
      · exact .inl rfl
    · have : (t == t') = false := by simpa using ht
      simp only [this] at h ⊢
      exact tdT_lookup h
theorem ok_treed {Γ : Ctx} {code : Code} {t : List (Nat × LV)} {h : List (Nat × Ent)} {Q : Exit → St → Prop} {k n T : Nat} {rs ss : List SV} (hk : h.lookup k = some (.row n T rs)) (hl : rs.length = ss.length) (hg : ∀ (i : Nat) (r s : SV), rs[i]? = some r → ss[i]? = some s → Gd r s)
    (hap : ∀ (i j b : Nat) (ri rj : SV), rs[i]? = some ri → rs[j]? = some rj → Zn b ri → Zn b rj → i = j) (hzn : ∀ r ∈ rs, ∀ b, Zn b r → Γ.w0.heap.size ≤ b ∨ Γ.M b)
    (hok : ∀ (Z : Nat → Prop) (v : Value), (∀ b, Z b → Γ.w0.heap.size ≤ b ∨ Γ.M b) → Ok Γ code ⟨tdT k (.tr Z (.sl n ss) v) t, dropH k h⟩ Q) : Ok Γ code ⟨t, h⟩ Q := by
  rintro a w ⟨ρ, I⟩
  have hT := row_tree I hk hl hg hap
  have hZb : ∀ b, (blk (ρ k) = some b ∨ ∃ r ∈ rs, Zn b r) → (Γ.w0.heap.size ≤ b ∨ Γ.M b) ∧ b < w.heap.size ∧ ¬ Own Γ (dropH k h) ρ b := by
    rintro b (hb | ⟨r, hr, hb⟩)
    · refine ⟨(I.new k _ b hk hb).1, (I.new k _ b hk hb).2, ?_⟩
      rintro (hO | ⟨k1, e1, hk1, hb1⟩)
      · have := I.out b hO
        rcases (I.new k _ b hk hb).1 with h1 | h1
        · omega
        · exact this.2 h1
      · obtain ⟨h1, h2⟩ := dropH_lookup hk1
        exact h2 (I.sep k1 k e1 _ b h1 hk hb1 hb)
    · obtain ⟨_, xs, vals, _, hel⟩ := I.ent k _ hk
      obtain ⟨i, hi⟩ := List.getElem?_of_mem hr
      have h1 := Rep.zn hb (hel i r hi).1
      refine ⟨hzn r hr b hb, h1.1, ?_⟩
      rintro (hO | ⟨k1, e1, hk1, hb1⟩)
      · exact h1.2 (.inl hO)
      · exact h1.2 (.inr ⟨k1, e1, (dropH_lookup hk1).1, hb1⟩)
  refine hok (fun b => blk (ρ k) = some b ∨ ∃ r ∈ rs, Zn b r) (ρ k) (fun b hb => (hZb b hb).1) a w ⟨ρ, ?_⟩
  have J : Iv Γ ⟨t, dropH k h⟩ ρ a w := I.sub (fun _ _ h => h) fun k e h => (dropH_lookup h).1
  refine ⟨J.dfr, J.size, J.frm, ?_, J.ent, J.new, J.sep, J.out, J.inn⟩
  intro t' lv h'
  rcases tdT_lookup h' with h'' | ⟨h'', rfl⟩
  · exact J.tmp t' lv h''
  · have h1 : a.tmps.getD t' undef = ρ k := I.tmp t' _ h''
    show Rep w _ _ _
    rw [h1]
    exact .tr _ _ _ hT fun b hb => (hZb b hb).2
/-- A function that writes into a slice of its first argument. -/
def endM (t n T : Nat) (Z : Nat → Prop) (R : Int → SV → Prop) : Exit → St → Prop
  | .normal, σ | .ret, σ => ∃ (k' : Int) (rs l : List SV), σ.ev (.tmp t) = .sv (.raw (.int .i64 k')) ∧ σ.h.lookup 0 = some (.row n T rs) ∧ rs.length = l.length ∧ (∀ (i : Nat) (r s : SV), rs[i]? = some r → l[i]? = some s → Gd r s) ∧
      (∀ (i j b : Nat) (ri rj : SV), rs[i]? = some ri → rs[j]? = some rj → Zn b ri → Zn b rj → i = j) ∧ (∀ r ∈ rs, ∀ b, Zn b r → Z b) ∧ R k' (.sl n l)
  | _, _ => False
theorem tree_open {w : World} {O : Nat → Prop} {Z : Nat → Prop} {s : SV} {v : Value} (h : Tree w Z s v) (hZ : ∀ b, Z b → b < w.heap.size ∧ ¬ O b) : ∃ r, Gd r s ∧ (∀ b, Zn b r → Z b) ∧ Rep w O r v := by
  induction h with
  | raw Z v => exact ⟨_, .raw v, fun b hb => (zn_raw hb).elim, .raw v⟩
  | nil Z sz a c => exact ⟨.tr Z (.sl sz []) _, .tr Z sz [] _, fun b hb => zn_tr hb, .tr Z _ _ (.nil Z sz a c) hZ⟩
  | sl Z sz T l b c cur vals z hb hl hc hz hcm hcs hg hel hsz hcl hzn hap ih => exact ⟨.tr Z (.sl sz l) _, .tr Z sz l _, fun b hb => zn_tr hb, .tr Z _ _ (.sl Z sz T l b c cur vals z hb hl hc hz hcm hcs hg hel hsz hcl hzn hap) hZ⟩
  | agg Z l vs z hn h1 h hzn hap ih =>
    have hx : ∀ i, i < l.length → ∃ r, (∀ s u, l[i]? = some s → vs[i]? = some u → Gd r s ∧ (∀ b, Zn b r → z i b) ∧ Rep w O r u) := by
      intro i hi
      obtain ⟨r, h1, h2, h3⟩ := ih i l[i] vs[i] (List.getElem?_eq_getElem hi) (Array.getElem?_eq_getElem (by omega)) (fun b hb => hZ b (hzn i b hb))
      refine ⟨r, fun s u hs hu => ?_⟩
      rw [List.getElem?_eq_getElem hi] at hs
      rw [Array.getElem?_eq_getElem (by omega)] at hu
      cases hs; cases hu
      exact ⟨h1, h2, h3⟩
    obtain ⟨f, hf⟩ := @choose_lt' SV ⟨.raw undef⟩ l.length _ hx
    have hget : ∀ i r, ((List.range l.length).map f)[i]? = some r → i < l.length ∧ f i = r := fun i r hi => get_of_family f hi
    refine ⟨.agg ((List.range l.length).map f), .agg _ _ (by simp) (fun i r s hr hs => ?_) (fun i j b ri rj hri hrj hbi hbj => ?_), fun b hb => ?_, .agg _ _ (by simp; omega) h1 (fun i r u hr hu => ?_)⟩
    · obtain ⟨hi, rfl⟩ := hget i r hr
      exact (hf i hi s _ hs (Array.getElem?_eq_getElem (by omega))).1
    · obtain ⟨hi, rfl⟩ := hget i ri hri
      obtain ⟨hj, rfl⟩ := hget j rj hrj
      exact hap i j b ((hf i hi _ _ (List.getElem?_eq_getElem hi) (Array.getElem?_eq_getElem (by omega))).2.1 b hbi) ((hf j hj _ _ (List.getElem?_eq_getElem hj) (Array.getElem?_eq_getElem (by omega))).2.1 b hbj)
    · obtain ⟨r, hr, hb'⟩ := zn_agg hb
      obtain ⟨i, hi'⟩ := List.getElem?_of_mem hr
      obtain ⟨hi, rfl⟩ := hget i r hi'
      exact hzn i b ((hf i hi _ _ (List.getElem?_eq_getElem hi) (Array.getElem?_eq_getElem (by omega))).2.1 b hb')
    · obtain ⟨hi, rfl⟩ := hget i r hr
      exact (hf i hi _ u (List.getElem?_eq_getElem hi) hu).2.2
theorem fnm_ok {P : Program} {f : FuncId} {fn : Func} {c : Code} {t n m : Nat} {l : List SV} {k : Int} {R : Int → SV → Prop} (hf : P.funcs[f]? = some fn) (hb : fn.body = some c) (hrs : fn.results = #[.tmp t]) (hnt : fn.ntmps = m) (hn : 2 ≤ m)
    (hnil : l = [] → ∀ (w : World) (v : Value), Rep w (fun _ => False) (.sl n []) v → Calls P f #[v, .int .i64 k] w fun e w' => ∃ k' s', e = .returned (.int .i64 k') ∧ R k' s' ∧ s' = .sl n [] ∧ Ext w w')
    (h : ∀ (w0 : World) (Z : Nat → Prop) (v : Value) (T : Nat) (rs : List SV), rs.length = l.length → 0 < l.length → (∀ (i : Nat) (r s : SV), rs[i]? = some r → l[i]? = some s → Gd r s) → (∀ (i j b : Nat) (ri rj : SV), rs[i]? = some ri → rs[j]? = some rj → Zn b ri → Zn b rj → i = j) → (∀ r ∈ rs, ∀ b, Zn b r → Z b) →
      Ok { P := P, w0 := w0, O := fun _ => False, M := Z, inn := fun i => if i = 0 then some v else none, n := m } c ⟨[(0, .own 0), (1, .sv (.raw (.int .i64 k)))], [(0, .row n T rs)]⟩ (endM t n T Z R)) : MarkC P f (.sl n l) k R := by
  intro w Z v hT hZ
  subst hnt
  generalize hs : SV.sl n l = s at hT
  cases hT with
  | raw => cases hs
  | agg => cases hs
  | nil _ sz a c' =>
    injection hs with h1 h2
    subst h1
    refine (hnil h2 w _ (.nil _ a c')).mono ?_
    rintro e w' ⟨k', s', he, hR, rfl, hx⟩
    exact ⟨k', _, he, hR, ⟨hx.os, hx.tape, hx.output, hx.size, fun b hb _ => hx.block b hb⟩, .nil _ _ _ _⟩
  | sl _ sz T l' b c' cur vals z hb' hl hc hz hcm hcs hg hel hsz hcl hzn hap =>
    injection hs with h1 h2
    subst h1 h2
    have hx : ∀ i, i < l.length → ∃ r, ∀ s, l[i]? = some s → Gd r s ∧ (∀ d, Zn d r → z i d) ∧ Rep w (fun d => d = b) r (vals i) := by
      intro i hi
      obtain ⟨r, h1, h2, h3⟩ := tree_open (O := fun d => d = b) (hel i l[i] (List.getElem?_eq_getElem hi)) (fun d hd => ⟨hZ d (hzn i d hd).1, (hzn i d hd).2⟩)
      refine ⟨r, fun s hs => ?_⟩
      rw [List.getElem?_eq_getElem hi] at hs
      cases hs
      exact ⟨h1, h2, h3⟩
    obtain ⟨g, hg'⟩ := @choose_lt' SV ⟨.raw undef⟩ l.length _ hx
    have hget : ∀ i r, ((List.range l.length).map g)[i]? = some r → i < l.length ∧ g i = r := fun i r hi => get_of_family g hi
    have hrl : ((List.range l.length).map g).length = l.length := by simp
    refine calls_of_wp hf hb ?_
    let Γ : Ctx := { P := P, w0 := w, O := fun _ => False, M := Z, inn := fun i => if i = 0 then some (.slice (some ⟨b, 0, none⟩) l.length c') else none, n := fn.ntmps }
    have hgap : ∀ (i j b : Nat) (ri rj : SV), ((List.range l.length).map g)[i]? = some ri → ((List.range l.length).map g)[j]? = some rj → Zn b ri → Zn b rj → i = j := by
      intro i j d ri rj hri hrj hdi hdj
      obtain ⟨hi, rfl⟩ := hget i ri hri
      obtain ⟨hj, rfl⟩ := hget j rj hrj
      exact hap i j d ((hg' i hi _ (List.getElem?_eq_getElem hi)).2.1 d hdi) ((hg' j hj _ (List.getElem?_eq_getElem hj)).2.1 d hdj)
    have hgz : ∀ r ∈ (List.range l.length).map g, ∀ d, Zn d r → Z d := by
      intro r hr d hd
      obtain ⟨i, hi'⟩ := List.getElem?_of_mem hr
      obtain ⟨hi, rfl⟩ := hget i r hi'
      exact (hzn i d ((hg' i hi _ (List.getElem?_eq_getElem hi)).2.1 d hd)).1
    have hggd : ∀ (i : Nat) (r s : SV), ((List.range l.length).map g)[i]? = some r → l[i]? = some s → Gd r s := by
      intro i r s hr hs
      obtain ⟨hi, rfl⟩ := hget i r hr
      exact (hg' i hi s hs).1
    have hmul : l.length * n ≤ cur.size := by rw [hcs]; exact Nat.mul_le_mul_right n hc
    have I : Inv Γ ⟨[(0, .own 0), (1, .sv (.raw (.int .i64 k)))], [(0, .row n T ((List.range l.length).map g))]⟩ { tmps := #[.slice (some ⟨b, 0, none⟩) l.length c', .int .i64 k] ++ Array.replicate (fn.ntmps - 2) undef, defers := [] } w := by
      have hlook : ∀ k' e, [(0, Ent.row n T ((List.range l.length).map g))].lookup k' = some e → k' = 0 ∧ e = .row n T ((List.range l.length).map g) := by
        intro k' e hk
        rw [List.lookup_cons] at hk
        cases hq : (k' == 0) with
        | true => simp only [hq, Option.some.injEq] at hk; exact ⟨by simpa using hq, hk.symm⟩
        | false => simp [hq] at hk
      have hown : ∀ d, Own Γ [(0, Ent.row n T ((List.range l.length).map g))] (fun _ => .slice (some ⟨b, 0, none⟩) l.length c') d → d = b := by
        rintro d (h | ⟨k', e, _, h⟩)
        · exact h.elim
        · simp [blk] at h; exact h.symm
      refine ⟨fun _ => .slice (some ⟨b, 0, none⟩) l.length c', ⟨rfl, by simp [Γ]; omega, ⟨rfl, rfl, rfl, Nat.le_refl _, fun _ _ _ => rfl⟩, ?_, ?_, ?_, ?_, fun b hb => hb.elim, ?_⟩⟩
      · intro t' lv ht
        rw [List.lookup_cons] at ht
        cases h0 : (t' == 0) with
        | true =>
          have : t' = 0 := by simpa using h0
          subst this
          simp only [h0, Option.some.injEq] at ht
          subst ht
          show Array.getD _ 0 undef = _
          rw [Array.getD_eq_getD_getElem?, Array.getElem?_append_left (by simp)]; rfl
        | false =>
          simp only [h0, List.lookup_cons] at ht
          cases h1 : (t' == 1) with
          | true =>
            have : t' = 1 := by simpa using h1
            subst this
            simp only [h1, Option.some.injEq] at ht
            subst ht
            show Rep w _ _ _
            have e : (#[Value.slice (some ⟨b, 0, none⟩) l.length c', .int .i64 k] ++ Array.replicate (fn.ntmps - 2) undef).getD 1 undef = .int .i64 k := by rw [Array.getD_eq_getD_getElem?, Array.getElem?_append_left (by simp)]; rfl
            rw [e]; exact .raw _
          | false => simp [h1] at ht
      · intro k' e hk
        obtain ⟨rfl, rfl⟩ := hlook k' e hk
        refine ⟨hz, cur.toList.take (l.length * n), vals, ⟨by rw [hrl, List.length_take, Array.length_toList]; exact Nat.min_eq_left hmul, .inr ⟨b, c', cur, by rw [hrl], Nat.zero_le _, hg, by rw [hrl]; exact hc, hcm, hcs, by rw [hrl]⟩⟩, fun i r hi => ?_⟩
        obtain ⟨hi', rfl⟩ := hget i r hi
        refine ⟨((hg' i hi' _ (List.getElem?_eq_getElem hi')).2.2).kp (fun d hd hno => ⟨rfl, fun h => hno (hown d h)⟩), hsz i hi', fun j u hu => ?_⟩
        have h3 := hcl i hi' j u hu
        have hjn : j < n := by
          have h4 := hsz i hi'
          have := (Array.getElem?_eq_some_iff.1 hu).1
          omega
        have hlt2 : i * n + j < l.length * n := by
          have : (i + 1) * n ≤ l.length * n := Nat.mul_le_mul_right n hi'
          rw [Nat.add_mul, Nat.one_mul] at this
          omega
        rw [List.getElem?_take, if_pos hlt2, Array.getElem?_toList]; exact h3
      · intro k' e d hk hd
        simp [blk] at hd
        subst hd
        exact ⟨.inr hb', hZ b hb'⟩
      · intro k1 k2 e1 e2 d h1 h2 _ _
        rw [(hlook k1 e1 h1).1, (hlook k2 e2 h2).1]
      · intro k' v hv
        simp only [Γ] at hv
        split at hv
        · simpa using hv
        · cases hv
    refine wp_mono (h w Z (.slice (some ⟨b, 0, none⟩) l.length c') T _ hrl hl hggd hgap hgz _ w I) ?_
    rintro e a' w' ⟨σ', hq, ρ, J⟩
    have hres : (results fn a'.tmps).run P w' = .ok (a'.tmps.getD t undef) w' := by
      unfold results
      rw [hrs]
      simp
    have fin : (∃ (k' : Int) (rs l : List SV), σ'.ev (.tmp t) = .sv (.raw (.int .i64 k')) ∧ σ'.h.lookup 0 = some (.row n T rs) ∧ rs.length = l.length ∧ (∀ (i : Nat) (r s : SV), rs[i]? = some r → l[i]? = some s → Gd r s) ∧
        (∀ (i j b : Nat) (ri rj : SV), rs[i]? = some ri → rs[j]? = some rj → Zn b ri → Zn b rj → i = j) ∧ (∀ r ∈ rs, ∀ b, Zn b r → Z b) ∧ R k' (.sl n l)) →
        a'.defers = [] ∧ ∃ v, (results fn a'.tmps).run P w' = .ok v w' ∧ ∃ k' s', Ending.returned v = .returned (.int .i64 k') ∧ R k' s' ∧ Chg Z w w' ∧ Tree w' Z s' (.slice (some ⟨b, 0, none⟩) l.length c') := by
      rintro ⟨k', rs, l2, h1, h2, h3, h4, h5, h6, h7⟩
      have hv : a'.tmps.getD t undef = .int .i64 k' := ev_raw J h1
      have hρ : ρ 0 = .slice (some ⟨b, 0, none⟩) l.length c' := J.inn 0 _ rfl
      have hT := row_tree J h2 h3 h4 h5
      rw [hρ] at hT
      refine ⟨J.dfr, _, hres, k', .sl n l2, by rw [hv], h7, ⟨J.frm.os, J.frm.tape, J.frm.output, J.frm.size, fun d hd hno => J.frm.block d hd hno⟩, hT.mono fun d hd => ?_⟩
      rcases hd with hd | ⟨r, hr, hd⟩
      · simp [blk] at hd; subst hd; exact hb'
      · exact h6 r hr d hd
    cases e with
    | normal => exact fin hq
    | ret => exact fin hq
    | _ => exact hq.elim
end Go.Abs

/- A row of pairs of whole numbers of ours, put in order by the library (slices.SortFunc). No condition. -/
namespace Go.Abs
open Go Go.RowKit Go.Eager Go.Sort Go.Proofs
set_option linter.unusedVariables false
def encP (x : Int × Int) : List Value := [.int .i64 x.1, .int .i64 x.2]
@[reducible] def pairSV (x : Int × Int) : SV := .agg [.raw (.int .i64 x.1), .raw (.int .i64 x.2)]
/-- What slices.SortFunc says at pairs, under a comparison g of their first numbers. -/
def SortsPairs (P : Program) (f g : FuncId) : Prop :=
  ∀ (blk off cap : Nat) (d : List (Int × Int)) (w : World), HoldsK encP 2 w blk off d.toArray → blk < w.heap.size → d.length < 4611686018427387904 →
    Calls P f #[.slice (some ⟨blk, off, none⟩) d.length cap, .func (.func g) #[] #[]] w fun e w' =>
      e = .returned (.tuple #[]) ∧ ∃ (d' : List (Int × Int)) (n : Nat) (os : Array Obj), d'.Perm d ∧ (d'.Pairwise fun a b => a.1 ≤ b.1) ∧ w' = sortWorldK encP 2 w blk off n d'.toArray os
theorem flat_get (d : List (Int × Int)) (i : Nat) (x : Int × Int) (h : d[i]? = some x) : (flatK encP 2 d.toArray).toList[i * 2]? = some (.int .i64 x.1) ∧ (flatK encP 2 d.toArray).toList[i * 2 + 1]? = some (.int .i64 x.2) := by
  obtain ⟨hi, rfl⟩ := List.getElem?_eq_some_iff.1 h
  have e0 : (i * 2) / 2 = i := by omega
  have e1 : (i * 2 + 1) / 2 = i := by omega
  have m0 : (i * 2) % 2 = 0 := by omega
  have m1 : (i * 2 + 1) % 2 = 1 := by omega
  constructor
  · simp only [flatK, Array.toList_map, Array.toList_range, List.getElem?_map, List.size_toArray]
    rw [List.getElem?_range (by omega)]
    simp [e0, m0, encP, hi]
  · simp only [flatK, Array.toList_map, Array.toList_range, List.getElem?_map, List.size_toArray]
    rw [List.getElem?_range (by omega)]
    simp [e1, m1, encP, hi]
theorem flat_len (d : List (Int × Int)) : (flatK encP 2 d.toArray).toList.length = d.length * 2 := by simp
section
variable {Γ : Ctx} {σ : St} {ρ : Nat → Value} {a : Act} {w : World}
theorem ok_sortp (I : Iv Γ σ ρ a w) {o : Oper} {f g : FuncId} {fn : Func} {x : Operand} {ts : Array TypeId} {T k : Nat} {zs : List (Int × Int)} {K : St → Prop}
    (ho : o.op = .call { callee := .value (.func f), args := #[x, .func g], argTypes := ts }) (hdn : dstOk Γ o = true) (hf : Γ.P.funcs[f]? = some fn) (hname : (fn.name == "runtime.NumGoroutine") = false) (hb : fn.body.isNone = false)
    (hx : σ.ev x = .own k) (hk : σ.h.lookup k = some (.row 2 T (zs.map pairSV))) (h0 : 0 < zs.length) (h1 : zs.length < 4611686018427387904) (hc : SortsPairs Γ.P f g)
    (hK : ∀ ys : List (Int × Int), ys.Perm zs → (ys.Pairwise fun a b => a.1 ≤ b.1) → K ((⟨σ.t, ins k (.row 2 T (ys.map pairSV)) σ.h⟩ : St).put o.dst .dead)) : XOk Γ a w o False K := by
  have hX : a.eval x = ρ k := by have := I.ev x; rw [hx] at this; exact this
  have hrun : (execOp a.eval o).run Γ.P w = .ok (.enter f #[ρ k, .func (.func g) #[] #[]]) w := by
    have hY : a.eval (.func f) = .func (.func f) #[] #[] := rfl
    have hG : a.eval (.func g) = .func (.func g) #[] #[] := rfl
    simp [execOp, ho, resolve, hY, Deferred.ofValue, invoke, run_callFunc hf hname hb, hX, hG]
  obtain ⟨hz, xs, vals, hown, hrep⟩ := I.ent k _ hk
  rw [List.length_map] at hown
  have hxl : xs.length = zs.length * 2 := hown.1
  have hxs : xs = (flatK encP 2 zs.toArray).toList := by
    apply List.ext_getElem?
    intro q
    by_cases hq : q < zs.length * 2
    · obtain ⟨z, hz'⟩ : ∃ z, zs[q / 2]? = some z := ⟨_, List.getElem?_eq_getElem (by omega)⟩
      obtain ⟨r1, r2, r3⟩ := hrep (q / 2) (pairSV z) (by rw [List.getElem?_map, hz']; rfl)
      obtain ⟨f0, f1⟩ := flat_get zs (q / 2) z hz'
      generalize hv : vals (q / 2) = v at r1 r2 r3
      cases r1 with
      | agg l vs hn g1 g2 =>
        have c0 : ∃ u, vs[0]? = some u := ⟨_, Array.getElem?_eq_getElem (by rw [hn]; simp)⟩
        have c1 : ∃ u, vs[1]? = some u := ⟨_, Array.getElem?_eq_getElem (by rw [hn]; simp)⟩
        obtain ⟨u0, c0⟩ := c0
        obtain ⟨u1, c1⟩ := c1
        have d0 := rep_raw' (g2 0 _ u0 rfl c0)
        have d1 := rep_raw' (g2 1 _ u1 rfl c1)
        subst d0 d1
        have t0 := r3 0 _ c0
        have t1 := r3 1 _ c1
        rcases Nat.mod_two_eq_zero_or_one q with hm | hm
        · have e : q = q / 2 * 2 + 0 := by omega
          rw [e, t0]; exact f0.symm
        · have e : q = q / 2 * 2 + 1 := by omega
          rw [e, t1]; exact f1.symm
    · rw [List.getElem?_eq_none (by omega), List.getElem?_eq_none (by rw [flat_len]; omega)]
  rcases hown.2 with ⟨_, h2⟩ | ⟨b, cap, cur, hv, _, hg, hcap, hmax, hcs, htk⟩
  · omega
  · have hbk : blk (ρ k) = some b := by rw [hv]; rfl
    have hlt : b < w.heap.size := (Array.getElem?_eq_some_iff.1 hg).1
    have hH : HoldsK encP 2 w b 0 zs.toArray := by
      intro j hj
      rw [size_flatK, List.size_toArray] at hj
      have hjc : j < cur.size := by rw [hcs]; exact Nat.lt_of_lt_of_le hj (Nat.mul_le_mul_right 2 hcap)
      refine ⟨?_, by simp [World.frozen?, hg]⟩
      have e1 : (cur.toList.take (zs.length * 2))[j]? = (flatK encP 2 zs.toArray).toList[j]? := by rw [htk, hxs]
      rw [List.getElem?_take, if_pos hj, Array.getElem?_toList, Array.getElem?_toList] at e1
      simp only [World.cell?, hg, Nat.zero_add, Option.isSome_none, Bool.false_eq_true, if_false]
      rw [e1, Array.getElem?_eq_getElem (by simp; omega)]
      simp [getElem!_pos, hj]
    unfold XOk oN
    rw [hrun, hv]
    refine (hc b 0 cap zs w hH hlt h1).mono ?_
    rintro e w' ⟨he, ys, n, os, hp, hso, rfl⟩
    refine ⟨_, he, _, hK ys hp hso, ⟨ρ, ?_⟩, fun h => h.elim⟩
    have hyl : ys.length = zs.length := hp.length_eq
    have hgb : (putRowK encP 2 (Sort.ahead w n) b 0 ys.toArray).heap[b]? = some (.cells (putCells id 0 (flatK encP 2 ys.toArray) cur) T (0, 0)) := by
      simp [putRowK, putRow, mapBlock, Sort.ahead, Array.getElem?_modify, hg, onCells]
    have hsz : (putRowK encP 2 (Sort.ahead w n) b 0 ys.toArray).heap.size = w.heap.size := by simp [putRowK, putRow, mapBlock, Sort.ahead]
    have hgr : ∀ c, c < w.heap.size → (sortWorldK encP 2 w b 0 n ys.toArray os).heap[c]? = (putRowK encP 2 (Sort.ahead w n) b 0 ys.toArray).heap[c]? := by
      intro c hc'
      simp only [sortWorldK, grow]
      rw [Array.getElem?_append_left (by rw [hsz]; exact hc')]
    have hoth : ∀ c, c ≠ b → (putRowK encP 2 (Sort.ahead w n) b 0 ys.toArray).heap[c]? = w.heap[c]? := by
      intro c hc'
      simp [putRowK, putRow, mapBlock, Sort.ahead, Array.getElem?_modify, show b ≠ c from fun h => hc' h.symm]
    refine (I.turn (w' := sortWorldK encP 2 w b 0 n ys.toArray os) (e := .row 2 T (ys.map pairSV)) hk ⟨rfl, rfl, rfl, by simp only [sortWorldK]; rw [size_grow, hsz]; omega⟩ (fun c hc' hne => ?_) ?_).put (dstOk_spec hdn) trivial
    · rw [hgr c hc']; exact hoth c fun h => hne (by rw [hbk, h])
    · refine ⟨hz, (flatK encP 2 ys.toArray).toList, fun i => .agg #[.int .i64 (ys.getD i (0, 0)).1, .int .i64 (ys.getD i (0, 0)).2], ?_, fun i s hi => ?_⟩
      · rw [hv, List.length_map, hyl]
        refine ⟨by rw [flat_len, hyl], .inr ⟨b, cap, putCells id 0 (flatK encP 2 ys.toArray) cur, rfl, Nat.zero_le _, ?_, hcap, hmax, by simpa [putCells] using hcs, ?_⟩⟩
        · rw [hgr b hlt]; exact hgb
        · apply List.ext_getElem?
          intro j
          rw [List.getElem?_take, Array.getElem?_toList, Array.getElem?_toList]
          by_cases hj : j < zs.length * 2
          · have hjc : j < cur.size := by rw [hcs]; exact Nat.lt_of_lt_of_le hj (Nat.mul_le_mul_right 2 hcap)
            rw [if_pos hj]
            simp only [putCells, Array.getElem?_mapIdx, Array.getElem?_eq_getElem hjc, Option.map_some]
            rw [if_pos (by simp [hyl]; omega), Array.getElem?_eq_getElem (by simp [hyl]; omega)]
            simp [getElem!_pos, hyl, hj]
          · rw [if_neg hj, Array.getElem?_eq_none (by simp [hyl]; omega)]
      · rw [List.getElem?_map] at hi
        cases hq : ys[i]? with
        | none => simp [hq] at hi
        | some z =>
          simp only [hq, Option.map_some, Option.some.injEq] at hi
          subst hi
          obtain ⟨f0, f1⟩ := flat_get ys i z hq
          simp only [List.getD_eq_getElem?_getD, hq, Option.getD_some]
          refine ⟨Rep.agg _ _ rfl (fun j u hu => ?_) (fun j s u hs hu => ?_), rfl, fun j u hu => ?_⟩
          · match j, hu with
            | 0, hu => simp at hu; subst hu; rfl
            | 1, hu => simp at hu; subst hu; rfl
            | j + 2, hu => simp at hu
          · match j, hs, hu with
            | 0, hs, hu => simp at hs hu; subst hs hu; exact Rep.raw _
            | 1, hs, hu => simp at hs hu; subst hs hu; exact Rep.raw _
            | j + 2, hs, hu => simp at hu
          · match j, hu with
            | 0, hu => simp [Value.cells] at hu; subst hu; exact f0
            | 1, hu => simp [Value.cells] at hu; subst hu; exact f1
            | j + 2, hu => simp [Value.cells] at hu
end
section
variable {Γ : Ctx} {ops : Array Oper} {l : List (Oper × Nat)} {t : List (Nat × LV)} {h : List (Nat × Ent)} {K : St → Prop} {c d ty : Nat} {ps : String} {af : Array Edge} {x y : Operand}
theorem q_sortp {f g k T : Nat} {ts : Array Nat} {zs : List (Int × Int)} (hc : SortsPairs Γ.P f g) (hcl : Calb Γ.P f) (hx : St.ev ⟨t, h⟩ x = .own k) (hh : h.lookup k = some (.row 2 T (zs.map pairSV))) (h0 : 0 < zs.length) (h1 : zs.length < 4611686018427387904)
    (hk : ∀ ys : List (Int × Int), ys.Perm zs → (ys.Pairwise fun a b => a.1 ≤ b.1) → RunL Γ ops l ⟨(d, .dead) :: t, ins k (.row 2 T (ys.map pairSV)) h⟩ K) :
    RunL Γ ops ((⟨some d, .call { callee := .value (.func f), args := #[x, .func g], argTypes := ts }, ty, ps, af, none⟩, 2) :: l) ⟨t, h⟩ K :=
  let ⟨_, hf', hname, hb⟩ := hcl
  run_x (ext := False) rfl (by omega) (fun h => (h rfl).elim) fun a w ρ I hd => ok_sortp I rfl hd hf' hname hb hx hh h0 h1 hc hk
/-- A struct of two whole numbers, put together. -/
theorem q_bld2 {S : Nat} {p q : Int} (hb : Γ.P.built S [(0, .int .i64 p), (1, .int .i64 q)] = some #[.int .i64 p, .int .i64 q]) (hx : St.ev ⟨t, h⟩ x = .sv (.raw (.int .i64 p))) (hy : St.ev ⟨t, h⟩ y = .sv (.raw (.int .i64 q)))
    (hk : RunL Γ ops l ⟨(d, .sv (pairSV (p, q))) :: t, h⟩ K) : RunL Γ ops ((⟨some d, .build S #[(0, x), (1, y)], ty, ps, af, none⟩, c + 2) :: l) ⟨t, h⟩ K := by
  refine run_x (ext := True) rfl (by omega) (fun _ => trivial) fun a w ρ I hd => ?_
  have run : (execOp a.eval ⟨some d, .build S #[(0, x), (1, y)], ty, ps, af, none⟩).run Γ.P w = .ok (.value (.agg #[.int .i64 p, .int .i64 q])) w := by
    have := run_build (P := Γ.P) w S #[(0, .int .i64 p), (1, .int .i64 q)] _ hb
    simp [execOp, ev_raw I hx, ev_raw I hy, this]
  unfold XOk oN
  rw [run]
  refine ⟨_, hk, ⟨ρ, I.put (d := some d) (by simpa [dstOk] using hd) ?_⟩, fun _ => Ext.refl w⟩
  refine Rep.agg _ _ rfl (fun j u hu => ?_) (fun j s u hs hu => ?_)
  · match j, hu with
    | 0, hu => simp at hu; subst hu; rfl
    | 1, hu => simp at hu; subst hu; rfl
    | j + 2, hu => simp at hu
  · match j, hs, hu with
    | 0, hs, hu => simp at hs hu; subst hs hu; exact Rep.raw _
    | 1, hs, hu => simp at hs hu; subst hs hu; exact Rep.raw _
    | j + 2, hs, hu => simp at hu
end
end Go.Abs

/- Calls whose arguments are trees; what stands aside; an empty row put in order. No condition. -/
namespace Go.Abs
open Go Go.RowKit Go.Eager
set_option linter.unusedVariables false
set_option linter.unusedSimpArgs false
def ArgOk (lv : LV) (s : SV) : Prop := lv = .sv s ∨ (∃ r, lv = .sv r ∧ Gd r s) ∨ ∃ Z, lv = .av Z s
def ArgsOk : List LV → List SV → Prop
  | [], [] => True
  | lv :: l, s :: m => ArgOk lv s ∧ ArgsOk l m
  | _, _ => False
theorem ArgOk.rep {w : World} {O : Nat → Prop} {ρ : Nat → Value} {lv : LV} {s : SV} {u : Value} (h : ArgOk lv s) (hr : LRep w O ρ lv u) : Rep w O s u := by
  rcases h with rfl | ⟨r, rfl, g⟩ | ⟨Z, rfl⟩
  · exact hr
  · exact g.rep hr
  · exact Rep.kp (O := fun b => O b ∨ Z b) hr fun b hb hno => ⟨rfl, fun h => hno (.inl h)⟩
theorem argsOk_len : ∀ {l : List LV} {m : List SV}, ArgsOk l m → l.length = m.length
  | [], [], _ => rfl
  | [], _ :: _, h => h.elim
  | _ :: _, [], h => h.elim
  | _ :: l, _ :: m, h => by simp [argsOk_len h.2]
theorem argsOk_get : ∀ {l : List LV} {m : List SV} {i : Nat} {s : SV}, ArgsOk l m → m[i]? = some s → ∃ lv, l[i]? = some lv ∧ ArgOk lv s
  | [], [], i, s, _, h => by simp at h
  | [], _ :: _, _, _, h, _ => h.elim
  | _ :: _, [], _, _, h, _ => h.elim
  | lv :: l, x :: m, 0, s, h, hs => by simp at hs; subst hs; exact ⟨lv, rfl, h.1⟩
  | lv :: l, x :: m, i + 1, s, h, hs => by
    obtain ⟨lv', h1, h2⟩ := argsOk_get h.2 (by simpa using hs)
    exact ⟨lv', by simpa using h1, h2⟩
/-- These slots stand aside of the zone. -/
def avK (ks : List Nat) (Z : Nat → Prop) (t : List (Nat × LV)) : List (Nat × LV) := t.map fun p => (p.1, if ks.contains p.1 then (match p.2 with | .sv s => .av Z s | .av Z' s => .av (fun b => Z' b ∨ Z b) s | lv => lv) else p.2)
theorem avK_lookup {ks : List Nat} {Z : Nat → Prop} {k : Nat} {lv : LV} : ∀ {t : List (Nat × LV)}, (avK ks Z t).lookup k = some lv → t.lookup k = some lv ∨ (∃ s, t.lookup k = some (.sv s) ∧ lv = .av Z s) ∨ ∃ Z' s, t.lookup k = some (.av Z' s) ∧ lv = .av (fun b => Z' b ∨ Z b) s
  | [], h => by simp [avK] at h
  | (a, x) :: t, h => by
    simp only [avK, List.map_cons, List.lookup_cons] at h ⊢
    cases hk : (k == a) with
    | false => simp only [hk] at h ⊢; exact avK_lookup h
    | true =>
      simp only [hk, Option.some.injEq] at h ⊢
      split at h
      · cases x <;> simp only at h <;> subst h <;> simp
      · subst h; exact .inl rfl
theorem PFn.toR {P : Program} {f : FuncId} {args : List SV} {r : SV} (h : PFn P f args r) (hr : ∀ b, ¬ Zn b r) : PFnR P f args fun x => x = r := by
  intro w O vs hO hsz hrep
  refine (h w O vs hO hsz hrep).mono ?_
  rintro e w' ⟨v, he, hx, hv⟩
  exact ⟨v, r, he, hx, rfl, fun b hb => (hr b hb).elim, hv⟩
section
variable {Γ : Ctx} {σ : St} {ρ : Nat → Value} {a : Act} {w : World}
theorem ok_callg (I : Iv Γ σ ρ a w) {o : Oper} {f : FuncId} {fn : Func} {args : Array Operand} {ts : Array TypeId} {sa : List SV} {R : SV → Prop} {d : Nat} (ks : List Nat) {K : St → Prop}
    (ho : o.op = .call { callee := .value (.func f), args := args, argTypes := ts }) (hd : o.dst = some d) (hdn : d < Γ.n) (hf : Γ.P.funcs[f]? = some fn) (hname : (fn.name == "runtime.NumGoroutine") = false) (hb : fn.body.isNone = false)
    (ha : ArgsOk (args.toList.map σ.ev) sa) (hc : PFnR Γ.P f sa R) (hk : ∀ r, R r → (∀ b, Zn b r → Γ.w0.heap.size ≤ b) → Apart σ.t σ.h r → K ⟨(d, .sv r) :: avK ks (fun b => Zn b r) σ.t, σ.h⟩) : XOk Γ a w o True K := by
  have hrun : (execOp a.eval o).run Γ.P w = .ok (.enter f (args.map a.eval)) w := by
    have hY : a.eval (.func f) = .func (.func f) #[] #[] := rfl
    simp [execOp, ho, resolve, hY, Deferred.ofValue, invoke, run_callFunc hf hname hb]
  have hsz : (args.map a.eval).size = sa.length := by have := argsOk_len ha; simp at this; simp [this]
  unfold XOk oN
  rw [hrun]
  refine (hc w (Own Γ σ.h ρ) (args.map a.eval) (fun b hb => blk_lt I hb) hsz fun i s u hi' hu => ?_).mono ?_
  · obtain ⟨lv, h3, h4⟩ := argsOk_get ha hi'
    rw [Array.getElem?_map] at hu
    rw [List.getElem?_map] at h3
    cases hx : args[i]? with
    | none => simp [hx] at hu
    | some x =>
      have hx' : args.toList[i]? = some x := by simpa using hx
      simp only [hx', Option.map_some, Option.some.injEq] at h3
      simp only [hx, Option.map_some, Option.some.injEq] at hu
      subst hu h3
      exact h4.rep (I.ev x)
  · rintro e w' ⟨v, r, he, hx, hR, hn, hv⟩
    have I1 := I.ext hx
    have hkp : ∀ {O1 : Nat → Prop}, Kp w O1 w' (fun b => O1 b ∨ Zn b r) := by
      intro O1 b hlt hno
      exact ⟨hx.block b hlt, fun h => h.elim hno fun h => by have := hn b h; omega⟩
    have I2 : Iv Γ ⟨avK ks (fun b => Zn b r) σ.t, σ.h⟩ ρ a w' := by
      refine ⟨I1.dfr, I1.size, I1.frm, fun k lv hk => ?_, I1.ent, I1.new, I1.sep, I1.out, I1.inn⟩
      rcases avK_lookup hk with h | ⟨s, h, rfl⟩ | ⟨Z', s, h, rfl⟩
      · exact I1.tmp k lv h
      · exact Rep.kp (I.tmp k _ h) hkp
      · have h1 : Rep w (fun b => Own Γ σ.h ρ b ∨ Z' b) s (a.tmps.getD k undef) := I.tmp k _ h
        refine Rep.kp h1 fun b hlt hno => ⟨hx.block b hlt, ?_⟩
        rintro (h2 | h2 | h2)
        · exact hno (.inl h2)
        · exact hno (.inr h2)
        · have := hn b h2; omega
    refine ⟨v, he, _, hk r hR (fun b hb => Nat.le_trans I.frm.size (hn b hb)) (apart_of I hn), ⟨ρ, ?_⟩, fun _ => hx⟩
    rw [hd]
    exact I2.put (d := some d) (lv := .sv r) (by simpa using hdn) hv
end
section
variable {Γ : Ctx} {ops : Array Oper} {l : List (Oper × Nat)} {t : List (Nat × LV)} {h : List (Nat × Ent)} {K : St → Prop} {c d ty : Nat} {ps : String} {af : Array Edge} {x y : Operand}
/-- A call whose arguments may be trees; these slots stand aside of what is handed back. -/
theorem q_callg {f : Nat} {args : Array Operand} {ts : Array Nat} {sa : List SV} {R : SV → Prop} (ks : List Nat) (hc : PFnR Γ.P f sa R) (hcl : Calb Γ.P f) (ha : ArgsOk (args.toList.map (St.ev ⟨t, h⟩)) sa)
    (hk : ∀ r, R r → (∀ b, Zn b r → Γ.w0.heap.size ≤ b) → Apart t h r → RunL Γ ops l ⟨(d, .sv r) :: avK ks (fun b => Zn b r) t, h⟩ K) :
    RunL Γ ops ((⟨some d, .call { callee := .value (.func f), args := args, argTypes := ts }, ty, ps, af, none⟩, c + 2) :: l) ⟨t, h⟩ K :=
  let ⟨_, hf', hname, hb⟩ := hcl
  run_x (ext := True) rfl (by omega) (fun _ => trivial) fun _ _ _ I hd => ok_callg I ks rfl rfl (by simpa [dstOk] using hd) hf' hname hb ha hc hk
/-- .. one that hands back a plain value. -/
theorem q_callp {f : Nat} {args : Array Operand} {ts : Array Nat} {sa : List SV} {u : Value} (hc : PFn Γ.P f sa (.raw u)) (hcl : Calb Γ.P f) (ha : ArgsOk (args.toList.map (St.ev ⟨t, h⟩)) sa)
    (hk : RunL Γ ops l ⟨(d, .sv (.raw u)) :: t, h⟩ K) :
    RunL Γ ops ((⟨some d, .call { callee := .value (.func f), args := args, argTypes := ts }, ty, ps, af, none⟩, c + 2) :: l) ⟨t, h⟩ K := by
  refine q_callg [] (hc.toR fun b hb => zn_raw hb) hcl ha ?_
  rintro r rfl _ _
  have e : avK [] (fun b => Zn b (.raw u)) t = t := by
    unfold avK
    conv => rhs; rw [← List.map_id t]
    apply List.map_congr_left
    intro p _
    simp
  rw [e]; exact hk
/-- A load through what stands aside. -/
theorem run_read_w {o : Oper} {σ σw : St} (hg : o.guard = none) (hc : c ≠ 0) (hσ : ∀ ρ a w, Iv Γ σ ρ a w → Iv Γ σw ρ a w) (h : stepR Γ.P σw o.op fun lv => RunL Γ ops l (σ.put o.dst lv) K) (hh : σw.h = σ.h) : RunL Γ ops ((o, c) :: l) σ K := by
  intro hd a w ⟨ρ, I⟩
  simp only [List.all_cons, Bool.and_eq_true] at hd
  obtain ⟨lv, v, hk, hv, hrun⟩ := stepR_sound (hσ ρ a w I) h
  rw [hh] at hv
  have I' : Inv Γ (σ.put o.dst lv) (a.put o.dst v) w := ⟨ρ, I.put (dstOk_spec hd.1) hv⟩
  unfold wpP
  split
  · exact ⟨v, .inl ⟨wanted_none hg _, fun w' hx => hrun w' (hx.resolve_left hc)⟩, hk hd.2 _ _ I'⟩
  · rw [if_pos (wanted_none hg _)]
    unfold oN
    rw [hrun w (Ext.refl w)]
    exact ⟨fun _ => Ext.refl w, hk hd.2 _ _ I'⟩
theorem q_ldsa {S i : Nat} {Z : Nat → Prop} (r : List SV) (hg : aggOf Γ.P S = some true) (hx : t.lookup i = some (.av Z (.ptr (.agg r)))) (hs : szOf Γ.P S = some r.length) (hk : RunL Γ ops l ⟨(d, .sv (.agg r)) :: t, h⟩ K) :
    RunL Γ ops ((⟨some d, .load S (.tmp i), ty, ps, af, none⟩, c + 1) :: l) ⟨t, h⟩ K := by
  refine run_read_w (σw := ⟨(i, .sv (.ptr (.agg r))) :: t, h⟩) rfl (by omega) (fun ρ a w I => ?_) ?_ rfl
  · refine ⟨I.dfr, I.size, I.frm, fun k lv hk' => ?_, I.ent, I.new, I.sep, I.out, I.inn⟩
    rw [List.lookup_cons] at hk'
    cases hq : (k == i) with
    | false => simp only [hq] at hk'; exact I.tmp k lv hk'
    | true =>
      have : k = i := by simpa using hq
      subst this
      simp only [hq, Option.some.injEq] at hk'
      subst hk'
      have h1 : Rep w (fun b => Own Γ h ρ b ∨ Z b) (.ptr (.agg r)) (a.tmps.getD k undef) := I.tmp k _ hx
      exact Rep.kp h1 fun b hb hno => ⟨rfl, fun h => hno (.inl h)⟩
  · have e : St.ev ⟨(i, .sv (.ptr (.agg r))) :: t, h⟩ (.tmp i) = .sv (.ptr (.agg r)) := by simp [St.ev, List.lookup_cons]
    simp only [stepR, e]
    exact ⟨_, hg, (fun h => by cases h), fun _ => ⟨r, rfl, hs, hk⟩⟩
theorem ok_nilT {Γ : Ctx} {code : Code} {t : List (Nat × LV)} {h : List (Nat × Ent)} {Q : Exit → St → Prop} {d : Nat} (n : Nat) (hok : Ok Γ code ⟨(d, .sv (.tr (fun _ => False) (.sl n []) (.slice none 0 0))) :: t, h⟩ Q) : Ok Γ code ⟨(d, .sv (.raw (.slice none 0 0))) :: t, h⟩ Q := by
  rintro a w ⟨ρ, I⟩
  refine hok a w ⟨ρ, I.dfr, I.size, I.frm, fun k lv hk => ?_, I.ent, I.new, I.sep, I.out, I.inn⟩
  rw [List.lookup_cons] at hk
  cases hq : (k == d) with
  | false => simp only [hq] at hk; exact I.tmp k lv (by rw [List.lookup_cons, hq]; exact hk)
  | true =>
    have h1 := I.tmp k (.sv (.raw (.slice none 0 0))) (by rw [List.lookup_cons, hq])
    simp only [hq, Option.some.injEq] at hk
    subst hk
    have h2 : a.tmps.getD k undef = .slice none 0 0 := rep_raw' h1
    show Rep w _ _ _
    rw [h2]
    exact .tr _ _ _ (.nil _ _ _ _) fun b hb => hb.elim
end
end Go.Abs

/- Copies and marks of all kinds: what is alike in them. No condition. -/
namespace Go.Abs
open Go Go.RowKit Go.Eager Go.Ring
set_option linter.unusedVariables false
set_option linter.unusedSimpArgs false
def isRaw : SV → Bool
  | .raw _ => true
  | _ => false
theorem isRaw_inv {s : SV} (h : isRaw s = true) : ∃ u, s = .raw u := by cases s <;> first | exact ⟨_, rfl⟩ | cases h
def flatV : SV → Bool
  | .raw _ => true
  | .agg l => l.all isRaw
  | _ => false
theorem flat_zn {s : SV} (h : flatV s = true) {b : Nat} : ¬ Zn b s := by
  intro hb
  cases hb with
  | tr => cases h
  | tup => cases h
  | agg l s hs hb =>
    obtain ⟨u, rfl⟩ := isRaw_inv (List.all_eq_true.1 h s hs)
    exact zn_raw hb
theorem flat_gd {s : SV} (h : flatV s = true) : Gd s s := by
  match s, h with
  | .raw u, _ => exact .raw u
  | .agg l, h =>
    have hx : ∀ {i : Nat} {r : SV}, l[i]? = some r → ∃ u, r = .raw u := fun hi => isRaw_inv (List.all_eq_true.1 h _ (List.mem_of_getElem? hi))
    refine .agg l l rfl (fun i r s hr hs => ?_) (fun i j b ri rj hi hj hbi hbj => ?_)
    · obtain ⟨u, rfl⟩ := hx hr
      rw [hr] at hs
      cases hs
      exact .raw u
    · obtain ⟨u, rfl⟩ := hx hi
      exact (zn_raw hbi).elim
theorem flat_eq {r s : SV} (h : flatV s = true) (g : Gd r s) : r = s := by
  cases g with
  | raw => rfl
  | tr => cases h
  | agg rs ss hn hh hap =>
    congr 1
    apply List.ext_getElem?
    intro i
    rcases Nat.lt_or_ge i rs.length with h1 | h1
    · obtain ⟨r, hr⟩ := sget h1
      obtain ⟨s, hs⟩ := sget (l := ss) (i := i) (by omega)
      obtain ⟨u, rfl⟩ := isRaw_inv (List.all_eq_true.1 h s (smem hs))
      have := hh i r _ hr hs
      cases this
      rw [hr, hs]
    · rw [List.getElem?_eq_none h1, List.getElem?_eq_none (by omega)]
/-- A row of plain elements. -/
theorem gd_flatL {rs : List SV} (h : ∀ r ∈ rs, flatV r = true) : (∀ (i : Nat) (r s : SV), rs[i]? = some r → rs[i]? = some s → Gd r s) ∧ (∀ (i j b : Nat) (ri rj : SV), rs[i]? = some ri → rs[j]? = some rj → Zn b ri → Zn b rj → i = j) ∧ ∀ r ∈ rs, ∀ b, ¬ Zn b r := by
  refine ⟨fun i r s h1 h2 => ?_, fun i j b ri rj h1 h2 h3 => (flat_zn (h ri (smem h1)) h3).elim, fun r hr b => flat_zn (h r hr)⟩
  rw [h1] at h2
  cases h2
  exact flat_gd (h r (smem h1))
theorem PFnR.toP {P : Program} {f : FuncId} {args : List SV} {s : SV} (h : PFnT P f args s) : PFn P f args s := by
  intro w O vs hO hsz hrep
  refine (h w O vs hO hsz hrep).mono ?_
  rintro e w' ⟨v, r, he, hx, hr, _, hv⟩
  exact ⟨v, he, hx, hr.rep hv⟩
def GL : List SV → List SV → Prop
  | [], [] => True
  | r :: rs, s :: ss => Gd r s ∧ GL rs ss
  | _, _ => False
def AL : List SV → Prop
  | [] => True
  | r :: rs => (∀ b, Zn b r → ∀ x ∈ rs, ¬ Zn b x) ∧ AL rs
theorem GL.len : ∀ {rs ss : List SV}, GL rs ss → rs.length = ss.length
  | [], [], _ => rfl
  | [], _ :: _, h => h.elim
  | _ :: _, [], h => h.elim
  | _ :: rs, _ :: ss, h => by simp [GL.len h.2]
theorem GL.get : ∀ {rs ss : List SV} {i : Nat} {r s : SV}, GL rs ss → rs[i]? = some r → ss[i]? = some s → Gd r s
  | [], _, _, _, _, _, h, _ => by simp at h
  | _ :: _, [], _, _, _, h, _, _ => h.elim
  | _ :: _, _ :: _, 0, _, _, h, h1, h2 => by simp at h1 h2; subst h1 h2; exact h.1
  | _ :: _, _ :: _, i + 1, _, _, h, h1, h2 => GL.get h.2 (by simpa using h1) (by simpa using h2)
theorem AL.sep : ∀ {rs : List SV} {i j b : Nat} {ri rj : SV}, AL rs → rs[i]? = some ri → rs[j]? = some rj → Zn b ri → Zn b rj → i = j
  | [], _, _, _, _, _, _, h, _, _, _ => by simp at h
  | _ :: _, 0, 0, _, _, _, _, _, _, _, _ => rfl
  | r :: rs, 0, j + 1, b, ri, rj, h, h1, h2, h3, h4 => by
    simp at h1 h2; subst h1
    exact (h.1 b h3 rj (smem h2) h4).elim
  | r :: rs, i + 1, 0, b, ri, rj, h, h1, h2, h3, h4 => by
    simp at h1 h2; subst h2
    exact (h.1 b h4 ri (smem h1) h3).elim
  | r :: rs, i + 1, j + 1, b, ri, rj, h, h1, h2, h3, h4 => by
    have := AL.sep h.2 (i := i) (j := j) (by simpa using h1) (by simpa using h2) h3 h4
    omega
theorem gd_agg {rs ss : List SV} (h : GL rs ss) (a : AL rs) : Gd (.agg rs) (.agg ss) := .agg rs ss h.len (fun i r s hr hs => h.get hr hs) (fun i j b ri rj => a.sep)
theorem GL.of : ∀ {rs ss : List SV}, rs.length = ss.length → (∀ (i : Nat) (r s : SV), rs[i]? = some r → ss[i]? = some s → Gd r s) → GL rs ss
  | [], [], _, _ => trivial
  | [], _ :: _, h, _ => by simp at h
  | _ :: _, [], h, _ => by simp at h
  | r :: rs, s :: ss, h, hh => ⟨hh 0 r s rfl rfl, GL.of (by simpa using h) fun i r s hr hs => hh (i + 1) r s (by simpa using hr) (by simpa using hs)⟩
theorem AL.of : ∀ {rs : List SV}, (∀ (i j b : Nat) (ri rj : SV), rs[i]? = some ri → rs[j]? = some rj → Zn b ri → Zn b rj → i = j) → AL rs
  | [], _ => trivial
  | r :: rs, h => ⟨fun b hb x hx hb' => by
      obtain ⟨j, hj⟩ := List.getElem?_of_mem hx
      have := h 0 (j + 1) b r x rfl (by simpa using hj) hb hb'
      omega, AL.of fun i j b ri rj hi hj hbi hbj => by
      have := h (i + 1) (j + 1) b ri rj (by simpa using hi) (by simpa using hj) hbi hbj
      omega⟩
theorem gd_agg_inv {r : SV} {ss : List SV} (h : Gd r (.agg ss)) : ∃ rs, r = .agg rs ∧ GL rs ss ∧ AL rs := by
  generalize hs : SV.agg ss = s at h
  cases h with
  | raw => cases hs
  | tr => cases hs
  | agg rs ss' hn hh hap =>
    injection hs with hs
    subst hs
    exact ⟨rs, rfl, GL.of hn hh, AL.of hap⟩
theorem gd_raw_inv {r : SV} {u : Value} (h : Gd r (.raw u)) : r = .raw u := by cases h; rfl
theorem gd_sl_inv {r : SV} {n : Nat} {l : List SV} (h : Gd r (.sl n l)) : ∃ Z v, r = .tr Z (.sl n l) v := by cases h; exact ⟨_, _, rfl⟩
theorem GL.inv_nil {rs : List SV} (h : GL rs []) : rs = [] := by cases rs with | nil => rfl | cons => exact h.elim
theorem GL.inv_cons {rs : List SV} {s : SV} {ss : List SV} (h : GL rs (s :: ss)) : ∃ r rs', rs = r :: rs' ∧ Gd r s ∧ GL rs' ss := by
  cases rs with | nil => exact h.elim | cons r rs => exact ⟨r, rs, rfl, h.1, h.2⟩
theorem znA_nil {b : Nat} : Zn b (.agg []) ↔ False := ⟨fun h => (by obtain ⟨s, hs, _⟩ := zn_agg h; simp at hs), False.elim⟩
theorem znA_cons {b : Nat} {s : SV} {l : List SV} : Zn b (.agg (s :: l)) ↔ Zn b s ∨ Zn b (.agg l) := by
  constructor
  · intro h
    obtain ⟨x, hx, hb⟩ := zn_agg h
    rcases List.mem_cons.1 hx with rfl | hx
    · exact .inl hb
    · exact .inr (.agg _ x hx hb)
  · rintro (h | h)
    · exact .agg _ s (List.mem_cons_self ..) h
    · obtain ⟨x, hx, hb⟩ := zn_agg h
      exact .agg _ x (List.mem_cons_of_mem _ hx) hb
theorem znI_raw {b : Nat} {u : Value} : Zn b (.raw u) ↔ False := ⟨zn_raw, False.elim⟩
theorem znI_tr {b : Nat} {Z : Nat → Prop} {s : SV} {v : Value} : Zn b (.tr Z s v) ↔ Z b := ⟨zn_tr, .tr Z s v⟩
theorem AL_raw {u : Value} {l : List SV} (h : AL l) : AL (.raw u :: l) := ⟨fun b hb => (zn_raw hb).elim, h⟩
theorem AL_tr {Z : Nat → Prop} {s : SV} {v : Value} {l : List SV} (hd : ∀ b, Z b → ¬ Zn b (.agg l)) (h : AL l) : AL (.tr Z s v :: l) := ⟨fun b hb x hx hx' => hd b (zn_tr hb) (.agg l x hx hx'), h⟩
def MkCL (Zj : Nat → Prop) (s s' : SV) (v : Value) : List LV → List LV → Prop
  | [], [] => True
  | a :: l, b :: m => MkL Zj s s' v a b ∧ MkCL Zj s s' v l m
  | _, _ => False
theorem MkCL.len {Zj : Nat → Prop} {s s' : SV} {v : Value} : ∀ {l m : List LV}, MkCL Zj s s' v l m → m.length = l.length
  | [], [], _ => rfl
  | [], _ :: _, h => h.elim
  | _ :: _, [], h => h.elim
  | _ :: l, _ :: m, h => by simp [MkCL.len h.2]
theorem MkCL.get {Zj : Nat → Prop} {s s' : SV} {v : Value} : ∀ {l m : List LV} {i : Nat} {x x' : LV}, MkCL Zj s s' v l m → l[i]? = some x → m[i]? = some x' → MkL Zj s s' v x x'
  | [], _, _, _, _, _, h, _ => by simp at h
  | _ :: _, [], _, _, _, h, _, _ => h.elim
  | _ :: _, _ :: _, 0, _, _, h, h1, h2 => by simp at h1 h2; subst h1 h2; exact h.1
  | _ :: _, _ :: _, i + 1, _, _, h, h1, h2 => MkCL.get h.2 (by simpa using h1) (by simpa using h2)
theorem mk_box {Zj : Nat → Prop} {s s' : SV} {v : Value} {l m : List LV} (h : MkCL Zj s s' v l m) : MkE Zj s s' v (.box l) (.box m) := .box h.len fun i x x' => h.get
def cOne {α : Type} (_ : α) : Nat := 1
def hInt (x : Int) (k : Nat) : Prop := x = (k : Int)
/-- The marks of a row: each element's, one behind the other. -/
def cL {α : Type} (c : α → Nat) : List α → Nat
  | [] => 0
  | x :: l => c x + cL c l
theorem cL_append {α : Type} (c : α → Nat) : ∀ (a b : List α), cL c (a ++ b) = cL c a + cL c b
  | [], b => by simp [cL]
  | x :: a, b => by simp [cL, cL_append c a b]; omega
theorem cL_snoc {α : Type} (c : α → Nat) (a : List α) (x : α) : cL c (a ++ [x]) = cL c a + c x := by rw [cL_append]; simp [cL]
theorem cL_const {α : Type} {c : α → Nat} {m : Nat} (hc : ∀ x, c x = m) : ∀ l : List α, cL c l = l.length * m
  | [] => by simp [cL]
  | x :: l => by simp [cL, hc, cL_const hc l, Nat.add_mul]; omega
def HL {α : Type} (c : α → Nat) (h : α → Nat → Prop) : List α → Nat → Prop
  | [], _ => True
  | x :: l, k => h x k ∧ HL c h l (k + c x)
theorem HL_snoc {α : Type} {c : α → Nat} {h : α → Nat → Prop} : ∀ {l : List α} {k : Nat} {x : α}, HL c h l k → h x (k + cL c l) → HL c h (l ++ [x]) k
  | [], k, x, _, hx => ⟨hx, trivial⟩
  | y :: l, k, x, hl, hx => ⟨hl.1, HL_snoc hl.2 (by rw [cL, ← Nat.add_assoc] at hx; exact hx)⟩
/-- A row of good copies, in Z, apart. -/
structure ShG (Z : Nat → Prop) {α : Type} (e : α → SV) (rs : List SV) (xs : List α) : Prop where
  len : rs.length = xs.length
  ap : ∀ (i j b : Nat) (ri rj : SV), rs[i]? = some ri → rs[j]? = some rj → Zn b ri → Zn b rj → i = j
  zn : ∀ r ∈ rs, ∀ b, Zn b r → Z b
  gd : ∀ (j : Nat) (r : SV) (x : α), rs[j]? = some r → xs[j]? = some x → Gd r (e x)
theorem set_getG {α : Type} {rs : List α} {i j : Nat} {x r : α} (h : (rs.set i x)[j]? = some r) : (j = i ∧ r = x) ∨ (j ≠ i ∧ rs[j]? = some r) := by
  rw [List.getElem?_set] at h
  by_cases hij : i = j
  · subst hij
    rw [if_pos rfl] at h
    split at h
    · exact .inl ⟨rfl, by cases h; rfl⟩
    · cases h
  · rw [if_neg hij] at h; exact .inr ⟨fun e => hij e.symm, h⟩
theorem set_self_getG {α : Type} {rs : List α} {i : Nat} {x y : α} (h : rs[i]? = some y) : (rs.set i x)[i]? = some x := by
  rw [List.getElem?_set, if_pos rfl, if_pos (slt h)]
section
variable {Z : Nat → Prop} {α : Type} {e : α → SV} {rs : List SV}
theorem ShG.set {d t : List α} {u u' : α} {r r' : SV} (h : ShG Z e rs (d ++ u :: t)) (hr : rs[d.length]? = some r) (hg : Gd r' (e u')) (hz : ∀ b, Zn b r' → Zn b r) : ShG Z e (rs.set d.length r') (d ++ u' :: t) := by
  have hx : ∀ {j : Nat} {q : SV} {b : Nat}, (rs.set d.length r')[j]? = some q → Zn b q → ∃ q', rs[j]? = some q' ∧ Zn b q' := by
    intro j q b hj hb
    rcases set_getG hj with ⟨rfl, rfl⟩ | ⟨_, h2⟩
    · exact ⟨_, hr, hz b hb⟩
    · exact ⟨_, h2, hb⟩
  refine ⟨by simpa using h.len, fun a c b ra rc ha hc hba hbc => ?_, fun q hq b hb => ?_, fun j q x hj hxj => ?_⟩
  · obtain ⟨x, h1, h2⟩ := hx ha hba
    obtain ⟨y, h3, h4⟩ := hx hc hbc
    exact h.ap a c b x y h1 h3 h2 h4
  · obtain ⟨j, hj⟩ := List.getElem?_of_mem hq
    obtain ⟨x, h1, h2⟩ := hx hj hb
    exact h.zn x (smem h1) b h2
  · rcases set_getG hj with ⟨rfl, rfl⟩ | ⟨hne, h2⟩
    · rw [List.getElem?_append_right (Nat.le_refl _), Nat.sub_self] at hxj
      simp at hxj; subst hxj; exact hg
    · refine h.gd j q x h2 ?_
      rcases Nat.lt_or_ge j d.length with h1 | h1
      · rw [List.getElem?_append_left h1] at hxj ⊢; exact hxj
      · rw [List.getElem?_append_right h1] at hxj ⊢
        rw [show j - d.length = (j - d.length - 1) + 1 by omega] at hxj ⊢
        simpa using hxj
theorem ShG.here {d t : List α} {u : α} (h : ShG Z e rs (d ++ u :: t)) : ∃ r, rs[d.length]? = some r ∧ Gd r (e u) := by
  have hl := h.len
  obtain ⟨r, hr⟩ := sget (l := rs) (i := d.length) (by rw [hl]; simp)
  exact ⟨r, hr, h.gd _ _ _ hr (by rw [List.getElem?_append_right (Nat.le_refl _), Nat.sub_self]; rfl)⟩
theorem mk_otherG {Zj : Nat → Prop} {s s' r q : SV} {v : Value} (g : Gd r q) (hd : ∀ b, Zn b r → ¬ Zj b) : Mk Zj s s' v r r := by
  induction g with
  | raw u => exact .raw u
  | tr Z n l u => exact .other Z _ u fun b hb => hd b (.tr Z _ u hb)
  | agg rs ss hn hh hap ih =>
    refine .agg rs rs rfl fun i x x' hx hx' => ?_
    rw [hx] at hx'
    cases hx'
    obtain ⟨y, hy⟩ := sget (l := ss) (i := i) (by have := slt hx; omega)
    exact ih i x y hx hy fun b hb => hd b (.agg rs x (smem hx) hb)
def MkAL (Zj : Nat → Prop) (s s' : SV) (v : Value) : List SV → List SV → Prop
  | [], [] => True
  | a :: l, b :: m => Mk Zj s s' v a b ∧ MkAL Zj s s' v l m
  | _, _ => False
theorem MkAL.len {Zj : Nat → Prop} {s s' : SV} {v : Value} : ∀ {l m : List SV}, MkAL Zj s s' v l m → m.length = l.length
  | [], [], _ => rfl
  | [], _ :: _, h => h.elim
  | _ :: _, [], h => h.elim
  | _ :: l, _ :: m, h => by simp [MkAL.len h.2]
theorem MkAL.get {Zj : Nat → Prop} {s s' : SV} {v : Value} : ∀ {l m : List SV} {i : Nat} {x x' : SV}, MkAL Zj s s' v l m → l[i]? = some x → m[i]? = some x' → Mk Zj s s' v x x'
  | [], _, _, _, _, _, h, _ => by simp at h
  | _ :: _, [], _, _, _, h, _, _ => h.elim
  | _ :: _, _ :: _, 0, _, _, h, h1, h2 => by simp at h1 h2; subst h1 h2; exact h.1
  | _ :: _, _ :: _, i + 1, _, _, h, h1, h2 => MkAL.get h.2 (by simpa using h1) (by simpa using h2)
theorem mk_aggL {Zj : Nat → Prop} {s s' : SV} {v : Value} {l m : List SV} (h : MkAL Zj s s' v l m) : Mk Zj s s' v (.agg l) (.agg m) := .agg l m h.len fun i x x' => h.get
theorem mk_rowG {d t : List α} {u : α} {r r' : SV} {n T : Nat} {Zj : Nat → Prop} {s s' : SV} {v : Value} (h : ShG Z e rs (d ++ u :: t)) (hr : rs[d.length]? = some r) (hz : ∀ b, Zj b → Zn b r) (m : Mk Zj s s' v r r') : MkE Zj s s' v (.row n T rs) (.row n T (rs.set d.length r')) := by
  refine .row (by simp) fun j x x' hx hx' => ?_
  rcases set_getG hx' with ⟨rfl, rfl⟩ | ⟨hne, h2⟩
  · rw [hr] at hx
    cases hx
    exact m
  · rw [hx] at h2
    cases h2
    obtain ⟨y, hy⟩ := sget (l := d ++ u :: t) (i := j) (by have := slt hx; rw [h.len] at this; exact this)
    exact mk_otherG (h.gd j x y hx hy) fun b hb hb' => hne (h.ap j d.length b _ _ hx hr hb (hz b hb'))
end
def vof : SV → Value
  | .raw u => u
  | .tr _ _ v => v
  | _ => undef
def rt : SV → Bool
  | .raw _ => true
  | .tr _ _ _ => true
  | _ => false
theorem vof_eq {w : World} {O : Nat → Prop} {r : SV} {v : Value} (h : Rep w O r v) (hr : rt r = true) : v = vof r := by
  cases h <;> first | rfl | cases hr
/-- The end of a function that writes into what its first argument, a struct, holds. -/
def endS (t bx : Nat) (Z : Nat → Prop) (rs : List SV) (R : Int → SV → Prop) : Exit → St → Prop
  | .normal, σ | .ret, σ => ∃ (k' : Int) (rs' ss' : List SV), σ.ev (.tmp t) = .sv (.raw (.int .i64 k')) ∧ σ.h.lookup bx = some (.box (rs'.map .sv)) ∧ rs'.map vof = rs.map vof ∧ rs'.all rt = true ∧ GL rs' ss' ∧ AL rs' ∧ (∀ b, Zn b (.agg rs') → Z b) ∧ R k' (.agg ss')
  | _, _ => False
theorem fns_ok {P : Program} {f : FuncId} {fn : Func} {c : Code} {t bx m : Nat} {ss : List SV} {k : Int} {R : Int → SV → Prop} (hf : P.funcs[f]? = some fn) (hb : fn.body = some c) (hrs : fn.results = #[.tmp t]) (hnt : fn.ntmps = m) (hn : 2 ≤ m)
    (h : ∀ (w0 : World) (Z : Nat → Prop) (rs : List SV), GL rs ss → AL rs → (∀ b, Zn b (.agg rs) → Z b) → rs.all rt = true ∧
      Ok { P := P, w0 := w0, O := fun _ => False, M := Z, inn := fun _ => none, n := m } c ⟨[(0, .sv (.agg rs)), (1, .sv (.raw (.int .i64 k)))], []⟩ (endS t bx Z rs R)) : MarkC P f (.agg ss) k R := by
  intro w Z v hT hZ
  subst hnt
  obtain ⟨r, hg, hzn, hrep⟩ := tree_open (O := fun _ => False) hT (fun b hb => ⟨hZ b hb, fun h => h⟩)
  obtain ⟨rs, rfl, hGL, hAL⟩ := gd_agg_inv hg
  obtain ⟨hrt, hok⟩ := h w Z rs hGL hAL hzn
  refine calls_of_wp hf hb ?_
  let Γ : Ctx := { P := P, w0 := w, O := fun _ => False, M := Z, inn := fun _ => none, n := fn.ntmps }
  have I : Inv Γ ⟨[(0, .sv (.agg rs)), (1, .sv (.raw (.int .i64 k)))], []⟩ { tmps := #[v, .int .i64 k] ++ Array.replicate (fn.ntmps - 2) undef, defers := [] } w := by
    have hno : ∀ d, ¬ Own Γ [] (fun _ => undef) d := by
      rintro d (h | ⟨k', e, hk, _⟩)
      · exact h
      · simp at hk
    refine ⟨fun _ => undef, ⟨rfl, by simp [Γ]; omega, ⟨rfl, rfl, rfl, Nat.le_refl _, fun _ _ _ => rfl⟩, ?_, ?_, ?_, ?_, fun b hb => hb.elim, ?_⟩⟩
    · intro t' lv ht
      rw [List.lookup_cons] at ht
      cases h0 : (t' == 0) with
      | true =>
        have : t' = 0 := by simpa using h0
        subst this
        simp only [h0, Option.some.injEq] at ht
        subst ht
        show Rep w _ _ (Array.getD _ 0 undef)
        rw [Array.getD_eq_getD_getElem?, Array.getElem?_append_left (by simp)]
        show Rep w _ _ v
        exact Rep.kp hrep fun b _ _ => ⟨rfl, hno b⟩
      | false =>
        simp only [h0, List.lookup_cons] at ht
        cases h1 : (t' == 1) with
        | true =>
          have : t' = 1 := by simpa using h1
          subst this
          simp only [h1, Option.some.injEq] at ht
          subst ht
          show Rep w _ _ (Array.getD _ 1 undef)
          rw [Array.getD_eq_getD_getElem?, Array.getElem?_append_left (by simp)]
          exact .raw _
        | false => simp [h1] at ht
    · intro k' e hk; simp at hk
    · intro k' e b hk; simp at hk
    · intro k1 k2 e1 e2 b hk; simp at hk
    · intro k' v hv; simp [Γ] at hv
  refine wp_mono (hok _ w I) ?_
  rintro e a' w' ⟨σ', hq, ρ, J⟩
  have hres : (results fn a'.tmps).run P w' = .ok (a'.tmps.getD t undef) w' := by
    unfold results
    rw [hrs]
    simp
  have fin : (∃ (k' : Int) (rs' ss' : List SV), σ'.ev (.tmp t) = .sv (.raw (.int .i64 k')) ∧ σ'.h.lookup bx = some (.box (rs'.map .sv)) ∧ rs'.map vof = rs.map vof ∧ rs'.all rt = true ∧ GL rs' ss' ∧ AL rs' ∧ (∀ b, Zn b (.agg rs') → Z b) ∧ R k' (.agg ss')) →
      a'.defers = [] ∧ ∃ u, (results fn a'.tmps).run P w' = .ok u w' ∧ ∃ k' s', Ending.returned u = .returned (.int .i64 k') ∧ R k' s' ∧ Chg Z w w' ∧ Tree w' Z s' v := by
    rintro ⟨k', rs', ss', e1, e2, e3, e4, e5, e6, e7, e8⟩
    have hv : a'.tmps.getD t undef = .int .i64 k' := ev_raw J e1
    obtain ⟨b, T, cur, _, _, hs, hc⟩ := J.ent bx _ e2
    have hlen : rs'.length = rs.length := by simpa using congrArg List.length e3
    have hR : Rep w' (Own Γ σ'.h ρ) (.agg rs') v := by
      cases hrep with
      | agg _ vs hn h1 h2 =>
        refine .agg rs' vs (by rw [hn, hlen]) h1 fun i x u hx hu => ?_
        have hlt : i < cur.size := by rw [hs]; simp; exact slt hx
        have h3 := (hc i (.sv x) cur[i] (by rw [List.getElem?_map, hx]; rfl) (Array.getElem?_eq_getElem hlt)).1
        have h4 : Rep w' (Own Γ σ'.h ρ) x cur[i] := h3
        obtain ⟨y, hy⟩ := sget (l := rs) (i := i) (by have := slt hx; omega)
        have h5 := vof_eq h4 (List.all_eq_true.1 e4 x (smem hx))
        have h6 := vof_eq (h2 i y u hy hu) (List.all_eq_true.1 hrt y (smem hy))
        have h7 : vof x = vof y := by
          have := congrArg (fun l => l[i]?) e3
          simp only [List.getElem?_map, hx, hy, Option.map_some, Option.some.injEq] at this
          exact this
        rw [h6, ← h7, ← h5]; exact h4
    exact ⟨J.dfr, _, hres, k', .agg ss', by rw [hv], e8, ⟨J.frm.os, J.frm.tape, J.frm.output, J.frm.size, fun d hd hno => J.frm.block d hd hno⟩, ((gd_agg e5 e6).tree hR).mono e7⟩
  cases e with
  | normal => exact fin hq
  | ret => exact fin hq
  | _ => exact hq.elim
section
variable {Γ : Ctx} {ops : Array Oper} {l : List (Oper × Nat)} {t : List (Nat × LV)} {h : List (Nat × Ent)} {K : St → Prop} {c d ty : Nat} {ps : String} {af : Array Edge} {x y : Operand}
/-- What becomes of a frame when all in Z is written. -/
inductive LsL (Z : Nat → Prop) : LV → LV → Prop
  | raw {u : Value} : LsL Z (.sv (.raw u)) (.sv (.raw u))
  | good {r s : SV} (g : Gd r s) (hd : ∀ b, Zn b r → ¬ Z b) : LsL Z (.sv r) (.sv r)
  | av {Z2 : Nat → Prop} {s : SV} (hs : ∀ b, Z b → Z2 b) : LsL Z (.av Z2 s) (.av Z2 s)
  | own {k : Nat} : LsL Z (.own k) (.own k)
  | ptr {k j : Nat} : LsL Z (.ptr k j) (.ptr k j)
  | dead {lv : LV} : LsL Z lv .dead
def LsT (Z : Nat → Prop) (t : List (Nat × LV)) : List (Nat × LV) → Prop
  | [] => True
  | (k, lv') :: t' => (∃ lv, t.lookup k = some lv ∧ LsL Z lv lv') ∧ LsT Z t t'
def LsC (Z : Nat → Prop) : List LV → List LV → Prop
  | [], [] => True
  | a :: l, b :: m => LsL Z a b ∧ LsC Z l m
  | _, _ => False
inductive LsE (Z : Nat → Prop) : Ent → Ent → Prop
  | box {c c' : List LV} (h : LsC Z c c') : LsE Z (.box c) (.box c')
  | row {n T : Nat} {l : List SV} (h : ∀ r ∈ l, (∃ s, Gd r s) ∧ ∀ b, Zn b r → ¬ Z b) : LsE Z (.row n T l) (.row n T l)
def LsH (Z : Nat → Prop) (h : List (Nat × Ent)) : List (Nat × Ent) → Prop
  | [] => True
  | (k, e') :: h' => (∃ e, h.lookup k = some e ∧ LsE Z e e') ∧ LsH Z h h'
theorem lsT_lookup {Z : Nat → Prop} {k : Nat} {lv' : LV} : ∀ {t' : List (Nat × LV)}, LsT Z t t' → t'.lookup k = some lv' → ∃ lv, t.lookup k = some lv ∧ LsL Z lv lv'
  | [], _, h => by simp at h
  | (a, x) :: t', ⟨hx, ht⟩, h => by
    rw [List.lookup_cons] at h
    cases hk : (k == a) with
    | true =>
      have : k = a := by simpa using hk
      subst this
      simp only [hk, Option.some.injEq] at h
      subst h; exact hx
    | false => simp only [hk] at h; exact lsT_lookup ht h
theorem lsH_lookup {Z : Nat → Prop} {k : Nat} {e' : Ent} : ∀ {h' : List (Nat × Ent)}, LsH Z h h' → h'.lookup k = some e' → ∃ e, h.lookup k = some e ∧ LsE Z e e'
  | [], _, h => by simp at h
  | (a, x) :: t', ⟨hx, ht⟩, h => by
    rw [List.lookup_cons] at h
    cases hk : (k == a) with
    | true =>
      have : k = a := by simpa using hk
      subst this
      simp only [hk, Option.some.injEq] at h
      subst h; exact hx
    | false => simp only [hk] at h; exact lsH_lookup ht h
theorem lsC_get {Z : Nat → Prop} : ∀ {l m : List LV} {i : Nat} {x x' : LV}, LsC Z l m → l[i]? = some x → m[i]? = some x' → LsL Z x x'
  | [], _, _, _, _, _, h, _ => by simp at h
  | _ :: _, [], _, _, _, h, _, _ => h.elim
  | _ :: _, _ :: _, 0, _, _, h, h1, h2 => by simp at h1 h2; subst h1 h2; exact h.1
  | _ :: _, _ :: _, i + 1, _, _, h, h1, h2 => lsC_get h.2 (by simpa using h1) (by simpa using h2)
theorem lsC_len {Z : Nat → Prop} : ∀ {l m : List LV}, LsC Z l m → m.length = l.length
  | [], [], _ => rfl
  | [], _ :: _, h => h.elim
  | _ :: _, [], h => h.elim
  | _ :: l, _ :: m, h => by simp [lsC_len h.2]
end
theorem Gd.keep {w w' : World} {O O' : Nat → Prop} {Z : Nat → Prop} {r s : SV} (hc : Chg Z w w') (g : Gd r s) (hd : ∀ b, Zn b r → ¬ Z b) (hO : ∀ b, b < w.heap.size → ¬ O b → ¬ O' b) : ∀ {v : Value}, Rep w O r v → Rep w' O' r v := by
  induction g with
  | raw u => intro v h; cases h; exact .raw _
  | tr Z2 n l u =>
    intro v h
    cases h with
    | tr _ _ _ h1 h2 => exact .tr Z2 _ _ (h1.keep fun b hb => hc.block b (h2 b hb).1 (hd b (.tr Z2 _ _ hb))) fun b hb => ⟨Nat.lt_of_lt_of_le (h2 b hb).1 hc.size, hO b (h2 b hb).1 (h2 b hb).2⟩
  | agg rs ss hn hh hap ih =>
    intro v h
    cases h with
    | agg _ vs hn' h1 h2 =>
      refine .agg rs vs hn' h1 fun i x y hx hy => ?_
      obtain ⟨q, hq⟩ := sget (l := ss) (i := i) (by have := slt hx; omega)
      exact ih i x q hx hq (fun b hb => hd b (.agg rs x (smem hx) hb)) (h2 i x y hx hy)
section
variable {Γ : Ctx} {σ : St} {ρ : Nat → Value} {a : Act} {w : World}
theorem Iv.less (I : Iv Γ σ ρ a w) {Z : Nat → Prop} {w' : World} {t' : List (Nat × LV)} {h' : List (Nat × Ent)} (hc : Chg Z w w') (hZ : ∀ b, Z b → b < w.heap.size ∧ ¬ Own Γ σ.h ρ b)
    (hM : ∀ b, Z b → Γ.w0.heap.size ≤ b ∨ Γ.M b) (ht : LsT Z σ.t t') (hh : LsH Z σ.h h') : Iv Γ ⟨t', h'⟩ ρ a w' := by
  have hO : ∀ b, ¬ Own Γ σ.h ρ b → ¬ Own Γ h' ρ b := by
    rintro b hno (hb | ⟨k, e, hk, hb⟩)
    · exact hno (.inl hb)
    · obtain ⟨e0, hk0, _⟩ := lsH_lookup hh hk
      exact hno (.inr ⟨k, e0, hk0, hb⟩)
  have hL : ∀ {lv lv' : LV} {u : Value}, LsL Z lv lv' → LRep w (Own Γ σ.h ρ) ρ lv u → LRep w' (Own Γ h' ρ) ρ lv' u := by
    intro lv lv' u hm hr
    cases hm with
    | raw => have h1 : Rep w (Own Γ σ.h ρ) _ u := hr; have h2 := rep_raw' h1; show Rep w' _ _ u; rw [h2]; exact .raw _
    | good g hd => exact g.keep hc hd (fun b _ h => hO b h) hr
    | @av Z2 s hs =>
      refine Rep.kp (O := fun b => Own Γ σ.h ρ b ∨ Z2 b) (O' := fun b => Own Γ h' ρ b ∨ Z2 b) hr fun b hb hno => ⟨hc.block b hb fun h => hno (.inr (hs b h)), ?_⟩
      exact fun h => h.elim (hO b fun h => hno (.inl h)) fun h => hno (.inr h)
    | own => exact hr
    | ptr => exact hr
    | dead => exact trivial
  have hblk : ∀ k e b, σ.h.lookup k = some e → blk (ρ k) = some b → w'.heap[b]? = w.heap[b]? := by
    intro k e b hk hb
    exact hc.block b (I.new k e b hk hb).2 fun h => (hZ b h).2 (.inr ⟨k, e, hk, hb⟩)
  refine ⟨I.dfr, I.size, ⟨hc.os.trans I.frm.os, hc.tape.trans I.frm.tape, hc.output.trans I.frm.output, Nat.le_trans I.frm.size hc.size, fun b hb hm => ?_⟩, ?_, ?_, ?_, ?_, I.out, I.inn⟩
  · refine (hc.block b (Nat.lt_of_lt_of_le hb I.frm.size) fun h => ?_).trans (I.frm.block b hb hm)
    rcases hM b h with h1 | h1
    · omega
    · exact hm h1
  · intro k lv' hk
    obtain ⟨lv, hk0, hm⟩ := lsT_lookup ht hk
    exact hL hm (I.tmp k lv hk0)
  · intro k e' hk
    obtain ⟨e, hk0, hm⟩ := lsH_lookup hh hk
    have he := I.ent k e hk0
    cases hm with
    | @box cc cc' hcs =>
      obtain ⟨b, T, cur, h1, h2, h3, h4⟩ := he
      have hn := lsC_len hcs
      refine ⟨b, T, cur, h1, (hblk k _ b hk0 (by rw [h1]; rfl)).trans h2, by rw [h3, hn], fun j lv' u hj hu => ?_⟩
      have hlt : j < cc.length := by rw [← hn]; exact (List.getElem?_eq_some_iff.1 hj).1
      exact ⟨hL (lsC_get hcs (List.getElem?_eq_getElem hlt) hj) (h4 j cc[j] u (List.getElem?_eq_getElem hlt) hu).1, (h4 j cc[j] u (List.getElem?_eq_getElem hlt) hu).2⟩
    | @row n T l hcs =>
      obtain ⟨hz, xs, vals, hown, hel⟩ := he
      refine ⟨hz, xs, vals, ?_, fun i x' hi => ?_⟩
      · refine ⟨hown.1, ?_⟩
        rcases hown.2 with h | ⟨g, cap, cur, e1, e2, e3, rest⟩
        · exact .inl h
        · exact .inr ⟨g, cap, cur, e1, e2, (hblk k _ g hk0 (by rw [e1]; rfl)).trans e3, rest⟩
      · obtain ⟨r1, r2, r3⟩ := hel i x' hi
        obtain ⟨⟨s, g⟩, hd⟩ := hcs x' (smem hi)
        exact ⟨g.keep hc hd (fun b _ h => hO b h) r1, r2, r3⟩
  · intro k e' b hk hb
    obtain ⟨e, hk0, _⟩ := lsH_lookup hh hk
    exact ⟨(I.new k e b hk0 hb).1, Nat.lt_of_lt_of_le (I.new k e b hk0 hb).2 hc.size⟩
  · intro k k' e e' b hk hk' hb hb'
    obtain ⟨e0, hk0, _⟩ := lsH_lookup hh hk
    obtain ⟨e1, hk1, _⟩ := lsH_lookup hh hk'
    exact I.sep k k' e0 e1 b hk0 hk1 hb hb'
/-- A good copy's value. -/
theorem tree_of (I : Iv Γ σ ρ a w) {x : Operand} {r s : SV} (hx : σ.ev x = .sv r) (g : Gd r s) : Tree w (fun b => Zn b r) s (a.eval x) ∧ (∀ b, Zn b r → b < w.heap.size ∧ ¬ Own Γ σ.h ρ b) := by
  have h := I.ev x
  rw [hx] at h
  exact ⟨g.tree h, fun b hb => Rep.zn hb h⟩
end
section
variable {Γ : Ctx} {ops : Array Oper} {l : List (Oper × Nat)} {t : List (Nat × LV)} {h : List (Nat × Ent)} {K : St → Prop} {c d ty : Nat} {ps : String} {af : Array Edge} {x y : Operand}
/-- A call that writes into a good copy, which is then forgotten. -/
theorem q_markg {f : Nat} {ts : Array Nat} {r s : SV} {k : Int} {R : Int → SV → Prop} (g : Gd r s) (hc : MarkC Γ.P f s k R) (hcl : Calb Γ.P f) (hx : St.ev ⟨t, h⟩ x = .sv r) (hy : St.ev ⟨t, h⟩ y = .sv (.raw (.int .i64 k)))
    (hM : ∀ b, Zn b r → Γ.w0.heap.size ≤ b ∨ Γ.M b) (t' : List (Nat × LV)) (h' : List (Nat × Ent)) (ht : LsT (fun b => Zn b r) t t') (hh : LsH (fun b => Zn b r) h h')
    (hk : ∀ k' s', R k' s' → RunL Γ ops l ⟨(d, .sv (.raw (.int .i64 k'))) :: t', h'⟩ K) :
    RunL Γ ops ((⟨some d, .call { callee := .value (.func f), args := #[x, y], argTypes := ts }, ty, ps, af, none⟩, 2) :: l) ⟨t, h⟩ K := by
  obtain ⟨fn, hf', hname, hb⟩ := hcl
  refine run_x (ext := False) rfl (by omega) (fun h => (h rfl).elim) fun a w ρ I hd => ?_
  obtain ⟨hT, hZ⟩ := tree_of I hx g
  have hY : a.eval y = .int .i64 k := ev_raw I hy
  have hrun : (execOp a.eval ⟨some d, .call { callee := .value (.func f), args := #[x, y], argTypes := ts }, ty, ps, af, none⟩).run Γ.P w = .ok (.enter f #[a.eval x, .int .i64 k]) w := by
    have hF : a.eval (.func f) = .func (.func f) #[] #[] := rfl
    simp [execOp, resolve, hF, Deferred.ofValue, invoke, run_callFunc hf' hname hb, hY]
  unfold XOk oN
  rw [hrun]
  refine (hc w _ _ hT fun b hb => (hZ b hb).1).mono ?_
  rintro e w' ⟨k', s', he, hR, hC, hT'⟩
  exact ⟨_, he, _, hk k' s' hR, ⟨ρ, (I.less hC hZ hM ht hh).put (d := some d) (by simpa [dstOk] using hd) (Rep.raw _)⟩, fun h => h.elim⟩
end
section
variable {Γ : Ctx} {ops : Array Oper} {l : List (Oper × Nat)} {t : List (Nat × LV)} {h : List (Nat × Ent)} {K : St → Prop} {c d ty : Nat} {ps : String} {af : Array Edge} {x : Operand}
/-- A row of bytes that no one writes, as a text. -/
theorem q_cvf {bs : List UInt8} {S D e : Nat} (hs : Γ.P.underlying S = some (.slice e)) (he : Γ.P.underlying e = some (.int .u8)) (hD : Γ.P.underlying D = some .string) (hx : St.ev ⟨t, h⟩ x = .sv (.sl 1 (bs.map byteSV)))
    (hk : RunL Γ ops l ⟨(d, .sv (.raw (.string ⟨bs.toArray⟩))) :: t, h⟩ K) : RunL Γ ops ((⟨some d, .convert S D x, ty, ps, af, none⟩, c + 2) :: l) ⟨t, h⟩ K := by
  refine run_x (ext := True) rfl (by omega) (fun _ => trivial) fun a w ρ I hd => ?_
  have hr := I.ev x
  rw [hx] at hr
  have run : (execOp a.eval ⟨some d, .convert S D x, ty, ps, af, none⟩).run Γ.P w = .ok (.value (.string ⟨bs.toArray⟩)) w := by
    have h1 := run_rep_string (P := Γ.P) hr
    obtain ⟨q, n, cc, hq⟩ := rep_sl hr
    rw [hq] at h1
    simp [execOp, hq, run_convert_bytes_string w S D e q n cc hs he hD, h1]
  unfold XOk oN
  rw [run]
  exact ⟨_, hk, ⟨ρ, I.put (d := some d) (by simpa [dstOk] using hd) (Rep.raw _)⟩, fun _ => Ext.refl w⟩
end
/-- What no writing touches, kept; all else forgotten. -/
def mkD : LV → LV
  | .own k => .own k
  | .ptr k j => .ptr k j
  | .sv (.raw u) => .sv (.raw u)
  | _ => .dead
def mkDT (t : List (Nat × LV)) : List (Nat × LV) := t.map fun p => (p.1, mkD p.2)
theorem mkD_ok {Z : Nat → Prop} {s s' : SV} {v : Value} : ∀ lv : LV, MkL Z s s' v lv (mkD lv)
  | .own _ => .own
  | .ptr _ _ => .ptr
  | .sv (.raw u) => .sv (.raw u)
  | .sv (.sl _ _) => .dead
  | .sv (.agg _) => .dead
  | .sv (.tup _) => .dead
  | .sv (.clo _ _) => .dead
  | .sv (.ptr _) => .dead
  | .sv (.tr _ _ _) => .dead
  | .eptr _ _ _ _ => .dead
  | .osub _ _ _ => .dead
  | .av _ _ => .dead
  | .cfn _ _ => .dead
  | .dead => .dead
theorem mkDT_ok {Z : Nat → Prop} {s s' : SV} {v : Value} : ∀ t : List (Nat × LV), MkT Z s s' v t (mkDT t)
  | [] => trivial
  | (_, lv) :: t => ⟨rfl, mkD_ok lv, mkDT_ok t⟩
theorem fillR_set {rs : List SV} {z x : SV} {n : Nat} (h : rs.length < n) : (rs ++ List.replicate (n - rs.length) z).set rs.length x = (rs ++ [x]) ++ List.replicate (n - (rs ++ [x]).length) z := by
  rw [List.set_append_right _ _ (Nat.le_refl _), Nat.sub_self, show n - rs.length = (n - (rs.length + 1)) + 1 by omega, List.replicate_succ, List.set_cons_zero, List.append_assoc]
  congr 2
  simp
theorem fillR_get {rs : List SV} {z : SV} {n : Nat} (h : rs.length < n) : (rs ++ List.replicate (n - rs.length) z)[rs.length]? = some z := by
  rw [List.getElem?_append_right (Nat.le_refl _), Nat.sub_self, List.getElem?_replicate, if_pos (by omega)]
/-- Some copies, apart: one more. -/
structure Cps (w0 : World) (rs ss : List SV) : Prop where
  len : rs.length = ss.length
  gd : ∀ (i : Nat) (r s : SV), rs[i]? = some r → ss[i]? = some s → Gd r s
  ap : ∀ (i j b : Nat) (ri rj : SV), rs[i]? = some ri → rs[j]? = some rj → Zn b ri → Zn b rj → i = j
  nw : ∀ r ∈ rs, ∀ b, Zn b r → w0.heap.size ≤ b
theorem Cps.nil (w0 : World) : Cps w0 [] [] := ⟨rfl, fun i r s h => by simp at h, fun i j b ri rj h => by simp at h, fun r h => by simp at h⟩
theorem Cps.snoc {w0 : World} {rs ss : List SV} {r s : SV} (h : Cps w0 rs ss) (hg : Gd r s) (ha : ∀ x ∈ rs, ∀ b, Zn b x → ¬ Zn b r) (hn : ∀ b, Zn b r → w0.heap.size ≤ b) : Cps w0 (rs ++ [r]) (ss ++ [s]) := by
  have key : ∀ {α : Type} {l : List α} {x y : α} {i : Nat}, (l ++ [x])[i]? = some y → (l[i]? = some y ∧ i < l.length) ∨ (i = l.length ∧ y = x) := by
    intro α l x y i hi
    rcases Nat.lt_or_ge i l.length with h1 | h1
    · rw [List.getElem?_append_left h1] at hi; exact .inl ⟨hi, h1⟩
    · rw [List.getElem?_append_right h1] at hi
      have h2 := (List.getElem?_eq_some_iff.1 hi).1
      simp at h2
      have h3 : i = l.length := by omega
      subst h3
      simp at hi
      exact .inr ⟨rfl, hi.symm⟩
  refine ⟨by simp [h.len], fun i r' s' hr hs => ?_, fun i j b ri rj hi hj hbi hbj => ?_, fun x hx b hb => ?_⟩
  · rcases key hr with ⟨h1, h2⟩ | ⟨h1, rfl⟩
    · rcases key hs with ⟨h3, _⟩ | ⟨h3, _⟩
      · exact h.gd i r' s' h1 h3
      · have := h.len; omega
    · rcases key hs with ⟨_, h3⟩ | ⟨_, rfl⟩
      · have := h.len; omega
      · exact hg
  · rcases key hi with ⟨h1, h2⟩ | ⟨h1, rfl⟩ <;> rcases key hj with ⟨h3, h4⟩ | ⟨h3, rfl⟩
    · exact h.ap i j b ri rj h1 h3 hbi hbj
    · exact (ha ri (List.mem_of_getElem? h1) b hbi hbj).elim
    · exact (ha rj (List.mem_of_getElem? h3) b hbj hbi).elim
    · omega
  · rcases List.mem_append.1 hx with hx | hx
    · exact h.nw x hx b hb
    · simp at hx; subst hx; exact hn b hb
theorem hnil_of {P : Program} {f n : Nat} {k : Int} (h : PFn P f [.sl n [], .raw (.int .i64 k)] (.raw (.int .i64 k))) (w : World) (v : Value) (hr : Rep w (fun _ => False) (.sl n []) v) : Calls P f #[v, .int .i64 k] w fun e w' => e = .returned (.int .i64 k) ∧ Ext w w' := by
  refine (h w (fun _ => False) #[v, .int .i64 k] (fun b h => h.elim) rfl (fun i s u hs hu => ?_)).mono ?_
  · match i, hs, hu with
    | 0, hs, hu => simp at hs hu; subst hs hu; exact hr
    | 1, hs, hu => simp at hs hu; subst hs hu; exact Rep.raw _
    | i + 2, hs, hu => simp at hs
  · rintro e w' ⟨u, he, hx, hv⟩
    rw [rep_raw' hv] at he
    exact ⟨he, hx⟩
/-- The marks are no more than sixteen to each part of the bulk. -/
def KC (c : Nat) (f : Int → Int) (m : Int) : Prop := ∀ n, 0 ≤ f n → (c : Int) ≤ 16 * (n - f n) + m
theorem kc_take0 (m : Nat) : KC 0 (fun n => take n m) 0 := by
  intro n h
  simp only [take] at h ⊢
  split at h
  · omega
  · rename_i h1; rw [if_neg h1]; omega
theorem kc_take (m c : Nat) (hc : c ≤ 16 * m) : KC c (fun n => take n m) 0 := by
  intro n h
  simp only [take] at h ⊢
  split at h
  · omega
  · rename_i h1; rw [if_neg h1]; omega
theorem kc_stp {a b : Nat} {f g : Int → Int} (hf : KC a f 0) (hg : KC b g 0) : KC (a + b) (stp f g) 0 := by
  intro n h
  unfold stp at h ⊢
  split at h
  · omega
  · rename_i h1
    rw [if_neg h1]
    have := hf n (by omega)
    have := hg (f n) h
    omega
theorem kc_all {α : Type} {c : α → Nat} {f : α → Int → Int} (h : ∀ x, KC (c x) (f x) 16) : ∀ (l : List α) (n : Int), 0 ≤ szAll f l n → (cL c l : Int) ≤ 16 * (n - szAll f l n) + 16 * l.length
  | [], n, _ => by simp [cL, szAll]
  | x :: l, n, h0 => by
    unfold szAll at h0 ⊢
    split at h0
    · omega
    · rename_i h1
      rw [if_neg h1]
      have h2 := h x n (by omega)
      have h3 := kc_all h l (f x n) h0
      simp only [cL, List.length_cons]
      omega
theorem kc_sl {α : Type} {c : α → Nat} {f : α → Int → Int} (h : ∀ x, KC (c x) (f x) 16) (l : List α) : KC (cL c l) (szSl f l) 0 := by
  intro n h0
  by_cases h1 : n - l.length < 0
  · rw [szSl_pos h1] at h0; omega
  · rw [szSl_neg h1] at h0 ⊢
    have := kc_all h l _ h0
    omega
theorem KC.mono {c c' : Nat} {f : Int → Int} {m m' : Int} (h : KC c f m) (hc : (c' : Int) + m ≤ c + m') : KC c' f m' := fun n h0 => by have := h n h0; omega
section
variable {Γ : Ctx} {ops : Array Oper} {l : List (Oper × Nat)} {t : List (Nat × LV)} {h : List (Nat × Ent)} {K : St → Prop} {c d ty : Nat} {ps : String} {af : Array Edge} {x y : Operand}
end
end Go.Abs

/- Functions that hold a box; an append of nothing; a row that may be nil; structs put together. No condition. -/
namespace Go.Abs
open Go Go.RowKit Go.Eager
set_option linter.unusedVariables false
section
variable {Γ : Ctx} {σ : St} {ρ : Nat → Value} {a : Act} {w : World}
theorem clo_val {w : World} {O : Nat → Prop} {f : Nat} {l : List SV} {v : Value} (h : Rep w O (.clo f l) v) : ∃ vs : Array Value, v = .func (.func f) #[] vs ∧ vs.size = l.length ∧ ∀ (i : Nat) (s : SV) (u : Value), l[i]? = some s → vs[i]? = some u → Rep w O s u := by
  cases h with | clo _ _ vs hn h => exact ⟨vs, rfl, hn, h⟩
theorem ok_callc (I : Iv Γ σ ρ a w) {o : Oper} {f : FuncId} {fn : Func} {y : Operand} {args : Array Operand} {ts : Array TypeId} {sa cs : List SV} {R : SV → Prop} {d : Nat} (ks : List Nat) {K : St → Prop}
    (ho : o.op = .call { callee := .value y, args := args, argTypes := ts }) (hy : σ.ev y = .sv (.clo f cs)) (hd : o.dst = some d) (hdn : d < Γ.n) (hf : Γ.P.funcs[f]? = some fn) (hname : (fn.name == "runtime.NumGoroutine") = false) (hb : fn.body.isNone = false)
    (ha : ArgsOk (args.toList.map σ.ev) sa) (hc : PFnR Γ.P f (sa ++ cs) R) (hk : ∀ r, R r → (∀ b, Zn b r → Γ.w0.heap.size ≤ b) → Apart σ.t σ.h r → K ⟨(d, .sv r) :: avK ks (fun b => Zn b r) σ.t, σ.h⟩) : XOk Γ a w o True K := by
  have hY := I.ev y
  rw [hy] at hY
  obtain ⟨vs, hv, hvn, hvr⟩ := clo_val hY
  have hrun : (execOp a.eval o).run Γ.P w = .ok (.enter f (args.map a.eval ++ vs)) w := by
    simp [execOp, ho, resolve, hv, Deferred.ofValue, invoke, run_callFunc hf hname hb]
  have hsa : args.size = sa.length := by have := argsOk_len ha; simpa using this
  have hsz : (args.map a.eval ++ vs).size = (sa ++ cs).length := by simp [hsa, hvn]
  unfold XOk oN
  rw [hrun]
  refine (hc w (Own Γ σ.h ρ) (args.map a.eval ++ vs) (fun b hb => blk_lt I hb) hsz fun i s u hi' hu => ?_).mono ?_
  · rcases Nat.lt_or_ge i sa.length with hlt | hge
    · rw [List.getElem?_append_left hlt] at hi'
      rw [Array.getElem?_append_left (by simp; omega)] at hu
      obtain ⟨lv, h3, h4⟩ := argsOk_get ha hi'
      rw [Array.getElem?_map] at hu
      rw [List.getElem?_map] at h3
      cases hx : args[i]? with
      | none => simp [hx] at hu
      | some x =>
        have hx' : args.toList[i]? = some x := by simpa using hx
        simp only [hx', Option.map_some, Option.some.injEq] at h3
        simp only [hx, Option.map_some, Option.some.injEq] at hu
        subst hu h3
        exact h4.rep (I.ev x)
    · rw [List.getElem?_append_right hge] at hi'
      rw [Array.getElem?_append_right (by simp; omega)] at hu
      refine hvr (i - sa.length) s u hi' ?_
      rw [← hu]
      congr 1
      simp [hsa]
  · rintro e w' ⟨v, r, he, hx, hR, hn, hv⟩
    have I1 := I.ext hx
    have hkp : ∀ {O1 : Nat → Prop}, Kp w O1 w' (fun b => O1 b ∨ Zn b r) := by
      intro O1 b hlt hno
      exact ⟨hx.block b hlt, fun h => h.elim hno fun h => by have := hn b h; omega⟩
    have I2 : Iv Γ ⟨avK ks (fun b => Zn b r) σ.t, σ.h⟩ ρ a w' := by
      refine ⟨I1.dfr, I1.size, I1.frm, fun k lv hk => ?_, I1.ent, I1.new, I1.sep, I1.out, I1.inn⟩
      rcases avK_lookup hk with h | ⟨s, h, rfl⟩ | ⟨Z', s, h, rfl⟩
      · exact I1.tmp k lv h
      · exact Rep.kp (I.tmp k _ h) hkp
      · have h1 : Rep w (fun b => Own Γ σ.h ρ b ∨ Z' b) s (a.tmps.getD k undef) := I.tmp k _ h
        refine Rep.kp h1 fun b hlt hno => ⟨hx.block b hlt, ?_⟩
        rintro (h2 | h2 | h2)
        · exact hno (.inl h2)
        · exact hno (.inr h2)
        · have := hn b h2; omega
    refine ⟨v, he, _, hk r hR (fun b hb => Nat.le_trans I.frm.size (hn b hb)) (apart_of I hn), ⟨ρ, ?_⟩, fun _ => hx⟩
    rw [hd]
    exact I2.put (d := some d) (lv := .sv r) (by simpa using hdn) hv
theorem avK_nil (Z : Nat → Prop) (t : List (Nat × LV)) : avK [] Z t = t := by
  unfold avK
  conv => rhs; rw [← List.map_id t]
  apply List.map_congr_left
  intro p _
  simp
end
section
variable {Γ : Ctx} {ops : Array Oper} {l : List (Oper × Nat)} {t : List (Nat × LV)} {h : List (Nat × Ent)} {K : St → Prop} {c d ty : Nat} {ps : String} {af : Array Edge} {x y : Operand}
/-- A function that holds some things. -/
theorem q_mkf {f : Nat} {xs : Array Operand} {ss : List SV} (hx : xs.toList.map (St.ev ⟨t, h⟩) = ss.map LV.sv) (hk : RunL Γ ops l ⟨(d, .sv (.clo f ss)) :: t, h⟩ K) :
    RunL Γ ops ((⟨some d, .makeFunc (.func f) #[] xs, ty, ps, af, none⟩, c + 2) :: l) ⟨t, h⟩ K := by
  refine run_x (ext := True) rfl (by omega) (fun _ => trivial) fun a w ρ I hd => ?_
  have run : (execOp a.eval ⟨some d, .makeFunc (.func f) #[] xs, ty, ps, af, none⟩).run Γ.P w = .ok (.value (.func (.func f) #[] (xs.map a.eval))) w := by
    simp [execOp, Instr.makeFunc]
  have hl : xs.size = ss.length := by have := congrArg List.length hx; simpa using this
  unfold XOk oN
  rw [run]
  refine ⟨_, hk, ⟨ρ, I.put (d := some d) (by simpa [dstOk] using hd) (Rep.clo f _ _ (by simp [hl]) fun i s' u hs hu => ?_)⟩, fun _ => Ext.refl w⟩
  rw [Array.getElem?_map] at hu
  cases hq : xs[i]? with
  | none => simp [hq] at hu
  | some q =>
    simp only [hq, Option.map_some, Option.some.injEq] at hu
    subst hu
    have h3 : (xs.toList.map (St.ev ⟨t, h⟩))[i]? = some (.sv s') := by rw [hx, List.getElem?_map, hs]; rfl
    rw [List.getElem?_map, show xs.toList[i]? = some q by simpa using hq] at h3
    simp only [Option.map_some, Option.some.injEq] at h3
    have := I.ev q
    rw [h3] at this
    exact this
/-- A call of such a function. -/
theorem q_callc {f : Nat} {args : Array Operand} {ts : Array Nat} {sa cs : List SV} {R : SV → Prop} (hc : PFnR Γ.P f (sa ++ cs) R) (hcl : Calb Γ.P f) (hy : St.ev ⟨t, h⟩ y = .sv (.clo f cs)) (ha : ArgsOk (args.toList.map (St.ev ⟨t, h⟩)) sa)
    (hk : ∀ r, R r → (∀ b, Zn b r → Γ.w0.heap.size ≤ b) → Apart t h r → RunL Γ ops l ⟨(d, .sv r) :: t, h⟩ K) :
    RunL Γ ops ((⟨some d, .call { callee := .value y, args := args, argTypes := ts }, ty, ps, af, none⟩, c + 2) :: l) ⟨t, h⟩ K := by
  obtain ⟨_, hf', hname, hb⟩ := hcl
  refine run_x (ext := True) rfl (by omega) (fun _ => trivial) fun _ _ _ I hd => ok_callc I [] rfl hy rfl (by simpa [dstOk] using hd) hf' hname hb ha hc fun r h1 h2 h3 => ?_
  rw [avK_nil]
  exact hk r h1 h2 h3
theorem q_callcp {f : Nat} {args : Array Operand} {ts : Array Nat} {sa cs : List SV} {u : Value} (hc : PFn Γ.P f (sa ++ cs) (.raw u)) (hcl : Calb Γ.P f) (hy : St.ev ⟨t, h⟩ y = .sv (.clo f cs)) (ha : ArgsOk (args.toList.map (St.ev ⟨t, h⟩)) sa)
    (hk : RunL Γ ops l ⟨(d, .sv (.raw u)) :: t, h⟩ K) :
    RunL Γ ops ((⟨some d, .call { callee := .value y, args := args, argTypes := ts }, ty, ps, af, none⟩, c + 2) :: l) ⟨t, h⟩ K :=
  q_callc (hc.toR fun b hb => zn_raw hb) hcl hy ha fun r hr _ _ => by subst hr; exact hk
/-- Is it nil? -/
theorem q_eqn {n S e t2 : Nat} {r : List SV} (hu : Γ.P.underlying S = some (.slice e)) (hx : St.ev ⟨t, h⟩ x = .sv (.sl n r)) (hk : ∀ b : Bool, (b = true → r = []) → RunL Γ ops l ⟨(d, .sv (.raw (.bool b))) :: t, h⟩ K) :
    RunL Γ ops ((⟨some d, .binOp .eql S x (.const (.slice none 0 0)) t2, ty, ps, af, none⟩, c + 2) :: l) ⟨t, h⟩ K := by
  refine run_x (ext := True) rfl (by omega) (fun _ => trivial) fun a w ρ I hd => ?_
  have hX := I.ev x
  rw [hx] at hX
  obtain ⟨p, m, cc, hv⟩ := rep_sl hX
  have run : (execOp a.eval ⟨some d, .binOp .eql S x (.const (.slice none 0 0)) t2, ty, ps, af, none⟩).run Γ.P w = .ok (.value (.bool p.isNone)) w := by
    have hc2 : a.eval (.const (.slice none 0 0)) = .slice none 0 0 := rfl
    have hun : (underlying S).run Γ.P w = .ok (.slice e) w := by simp [underlying, hu]
    have : (Op.equal S (.slice p m cc) (.slice none 0 0)).run Γ.P w = .ok p.isNone w := by
      unfold Op.equal
      rw [show Op.maxDepth = (Op.maxDepth - 1) + 1 from rfl, Op.equalIn]
      cases p <;> simp [hun]
    have hg : (eqGuard .eql S x (.const (.slice none 0 0)) (.slice p m cc) (.slice none 0 0)).run Γ.P w = .ok () w := by simp [eqGuard]
    simp [execOp, hv, hc2, hg, binOp, this]
  unfold XOk oN
  rw [run]
  refine ⟨_, hk p.isNone (fun hp => ?_), ⟨ρ, I.put (d := some d) (by simpa [dstOk] using hd) (Rep.raw _)⟩, fun _ => Ext.refl w⟩
  rw [hv] at hX
  cases hX with
  | nil => rfl
  | sl => simp at hp
/-- A row of nothing. -/
theorem q_lito0 {S e n : Nat} (z : Value) (he : elOf Γ.P S = some (e, n)) (hz : zeroOf Γ.P e = some z) (hn : 0 < n) (hf : St.free ⟨t, h⟩ d = true) (hi : Γ.inn d = none)
    (hk : RunL Γ ops l ⟨(d, .own d) :: t, ins d (.row n e []) h⟩ K) : RunL Γ ops ((⟨some d, .buildSlice S 0 #[], ty, ps, af, none⟩, c + 2) :: l) ⟨t, h⟩ K :=
  run_x (ext := True) rfl (by omega) (fun _ => trivial) fun _ _ _ I hd => ok_buildSliceO (l := []) I rfl rfl (by simpa [dstOk] using hd) hf hi he hz hn rfl (by omega) rfl rfl (by simp) hk
/-- An append of nothing. -/
theorem q_appE {S e n k : Nat} (he : elOf Γ.P S = some (e, n)) (hx : St.ev ⟨t, h⟩ x = .own k) (hh : h.lookup k = some (.row n e [])) (hy : St.ev ⟨t, h⟩ y = .sv (.sl n []))
    (hk : RunL Γ ops l ⟨(d, .own k) :: t, h⟩ K) :
    RunL Γ ops ((⟨some d, .call { callee := .builtin .append, args := #[x, y], argTypes := #[S, S] }, ty, ps, af, none⟩, 2) :: l) ⟨t, h⟩ K := by
  refine run_x (ext := False) rfl (by omega) (fun h => (h rfl).elim) fun a w ρ I hd => ?_
  have hX : a.eval x = ρ k := by have := I.ev x; rw [hx] at this; exact this
  have hY := I.ev y
  rw [hy] at hY
  obtain ⟨hu, hs⟩ := elOf_spec he
  obtain ⟨hz0, xs, vals0, hown, hrep⟩ := I.ent k _ hh
  have hS : (sizeOf e).run Γ.P w = .ok n w := by
    unfold szOf at hs
    cases hi : Γ.P.info? e with
    | none => simp [hi] at hs
    | some it => simp [hi] at hs; simp [sizeOf, typeInfo, hi, hs]
  have hU : (underlying S).run Γ.P w = .ok (.slice e) w := by simp [underlying, hu]
  obtain ⟨p, cap, hρ⟩ : ∃ p cap, ρ k = .slice p 0 cap := by
    rcases hown.2 with ⟨h1, _⟩ | ⟨g, cap, cur, h1, _⟩
    · exact ⟨_, _, h1⟩
    · exact ⟨_, _, h1⟩
  obtain ⟨q, cc, hyv⟩ : ∃ q cc, a.eval y = .slice q 0 cc := by
    obtain ⟨q, m, cc, hv⟩ := rep_sl hY
    rw [hv] at hY
    cases hY with
    | nil => exact ⟨_, _, hv⟩
    | sl _ _ _ _ _ _ _ hl => simp at hl
  have run : (execOp a.eval ⟨some d, .call { callee := .builtin .append, args := #[x, y], argTypes := #[S, S] }, ty, ps, af, none⟩).run Γ.P w = .ok (.value (ρ k)) w := by
    have happ : (Builtin.append_ #[S, S] ty #[ρ k, .slice q 0 cc]).run Γ.P w = .ok (ρ k) w := by
      rw [hρ]
      unfold Builtin.append_
      cases p <;> cases q <;> simp [hU, hS, Builtin.lenOf, Builtin.firstCells, loadCells, loadCellsFrom, storeCells]
    simp [execOp, resolve, invoke, builtin, hX, hyv, happ]
  unfold XOk oN
  rw [run]
  exact ⟨_, hk, ⟨ρ, I.put (d := some d) (lv := .own k) (by simpa [dstOk] using hd) rfl⟩, fun _ => Ext.refl w⟩
end
/-- How a value of one cell looks. -/
def shp : SV → Value → Prop
  | .raw u, v => v = u
  | .sl _ _, v => ∃ p n c, v = .slice p n c
  | .tr _ (.sl _ _) u, v => v = u ∧ ∃ p n c, v = .slice p n c
  | _, _ => False
def shpOk : SV → Bool
  | .raw u => u.oneCell'
  | .sl _ _ => true
  | .tr _ (.sl _ _) _ => true
  | _ => false
theorem shp_of {w : World} {O : Nat → Prop} {s : SV} {v : Value} (h : Rep w O s v) (h1 : shpOk s = true) : shp s v := by
  cases h with
  | raw => rfl
  | nil => exact ⟨_, _, _, rfl⟩
  | sl => exact ⟨_, _, _, rfl⟩
  | agg => cases h1
  | tup => cases h1
  | ptr => cases h1
  | clo => cases h1
  | tr Z s v hT hZ =>
    cases hT with
    | raw => cases h1
    | agg => cases h1
    | nil => exact ⟨rfl, _, _, _, rfl⟩
    | sl => exact ⟨rfl, _, _, _, rfl⟩
def ShL : List SV → List Value → Prop
  | [], [] => True
  | s :: ss, v :: vs => shp s v ∧ ShL ss vs
  | _, _ => False
/-- A struct put together of these. -/
def BL (P : Program) (S : Nat) (ss : List SV) : Prop := ∀ vs : List Value, ShL ss vs → P.built S (vs.zipIdx.map fun p => (p.2, p.1)) = some vs.toArray
theorem shL_of {w : World} {O : Nat → Prop} : ∀ {ss : List SV} {vs : List Value}, ss.length = vs.length → (∀ (i : Nat) (s : SV) (v : Value), ss[i]? = some s → vs[i]? = some v → Rep w O s v) → ss.all shpOk = true → ShL ss vs
  | [], [], _, _, _ => trivial
  | [], _ :: _, h, _, _ => by simp at h
  | _ :: _, [], h, _, _ => by simp at h
  | s :: ss, v :: vs, h, hr, ha => by
    simp only [List.all_cons, Bool.and_eq_true] at ha
    exact ⟨shp_of (hr 0 s v rfl rfl) ha.1, shL_of (by simpa using h) (fun i s v hs hv => hr (i + 1) s v (by simpa using hs) (by simpa using hv)) ha.2⟩
theorem shL_one {w : World} {O : Nat → Prop} {s : SV} {v : Value} (h : Rep w O s v) (h1 : shpOk s = true) : s.one = true := by
  cases h with
  | raw => exact h1
  | nil => rfl
  | sl => rfl
  | agg => cases h1
  | tup => cases h1
  | ptr => cases h1
  | clo => cases h1
  | tr Z s v hT hZ => cases hT <;> first | rfl | cases h1
section
variable {Γ : Ctx} {ops : Array Oper} {l : List (Oper × Nat)} {t : List (Nat × LV)} {h : List (Nat × Ent)} {K : St → Prop} {c d ty : Nat} {ps : String} {af : Array Edge} {x y : Operand}
theorem q_bld {S : Nat} {parts : Array (Nat × Operand)} (ss : List SV) (hb : BL Γ.P S ss) (hi : parts.toList.map (·.1) = List.range ss.length) (hx : parts.toList.map (fun p => St.ev ⟨t, h⟩ p.2) = ss.map LV.sv) (ha : ss.all shpOk = true)
    (hk : RunL Γ ops l ⟨(d, .sv (.agg ss)) :: t, h⟩ K) : RunL Γ ops ((⟨some d, .build S parts, ty, ps, af, none⟩, c + 2) :: l) ⟨t, h⟩ K := by
  refine run_x (ext := True) rfl (by omega) (fun _ => trivial) fun a w ρ I hd => ?_
  have hlen : parts.toList.length = ss.length := by have := congrArg List.length hx; simpa using this
  let vs := parts.toList.map fun p => a.eval p.2
  have hvs : ∀ (i : Nat) (s : SV) (v : Value), ss[i]? = some s → vs[i]? = some v → Rep w (Own Γ h ρ) s v := by
    intro i s v hs hv
    have h2 : (parts.toList.map fun p => St.ev ⟨t, h⟩ p.2)[i]? = some (.sv s) := by rw [hx, List.getElem?_map, hs]; rfl
    rw [List.getElem?_map] at h2
    simp only [vs, List.getElem?_map] at hv
    cases hp : parts.toList[i]? with
    | none => simp [hp] at h2
    | some p =>
      simp only [hp, Option.map_some, Option.some.injEq] at h2 hv
      subst hv
      have := I.ev p.2
      rw [h2] at this
      exact this
  have hsh := shL_of (vs := vs) (by simp [vs]; simpa using hlen.symm) hvs ha
  have hparts : (parts.map fun p => (p.1, a.eval p.2)).toList = vs.zipIdx.map fun p => (p.2, p.1) := by
    rw [Array.toList_map]
    apply List.ext_getElem?
    intro i
    simp only [vs, List.getElem?_map, List.getElem?_zipIdx]
    cases hp : parts.toList[i]? with
    | none => simp
    | some p =>
      have h3 : (parts.toList.map (·.1))[i]? = some p.1 := by rw [List.getElem?_map, hp]; rfl
      rw [hi] at h3
      obtain ⟨hlt, he⟩ := List.getElem?_eq_some_iff.1 h3
      simp only [List.getElem_range] at he
      simp [← he]
  have run : (execOp a.eval ⟨some d, .build S parts, ty, ps, af, none⟩).run Γ.P w = .ok (.value (.agg vs.toArray)) w := by
    have h4 := hb vs hsh
    rw [← hparts] at h4
    have := run_build (P := Γ.P) w S (parts.map fun p => (p.1, a.eval p.2)) _ h4
    simp [execOp, this]
  unfold XOk oN
  rw [run]
  refine ⟨_, hk, ⟨ρ, I.put (d := some d) (by simpa [dstOk] using hd) (Rep.agg _ _ (by simp [vs]; simpa using hlen) (fun j u hu => ?_) (fun j s u hs hu => ?_))⟩, fun _ => Ext.refl w⟩
  · have hu' : vs[j]? = some u := by simpa using hu
    obtain ⟨s, hs⟩ : ∃ s, ss[j]? = some s := by
      have : j < vs.length := (List.getElem?_eq_some_iff.1 hu').1
      exact ⟨_, List.getElem?_eq_getElem (by simp [vs] at this; have := hlen; simp at this; omega)⟩
    have hr := hvs j s u hs hu'
    exact hr.oneCell (shL_one hr (List.all_eq_true.1 ha s (List.mem_of_getElem? hs)))
  · exact hvs j s u hs (by simpa using hu)
end
end Go.Abs

/- Functions that are lent boxes and rows of ours, and write them; functions that hold boxes of ours. No condition. -/
namespace Go.Abs
open Go Go.RowKit Go.Eager
set_option linter.unusedVariables false
set_option linter.unusedSimpArgs false
def OwnO (O : Nat → Prop) (h : List (Nat × Ent)) (ρ : Nat → Value) (b : Nat) : Prop := O b ∨ ∃ k e, h.lookup k = some e ∧ blk (ρ k) = some b
def Bk (h : List (Nat × Ent)) (ρ : Nat → Value) (b : Nat) : Prop := ∃ k e, h.lookup k = some e ∧ blk (ρ k) = some b
/-- Entries, at a world. -/
structure Ents (w : World) (O : Nat → Prop) (h : List (Nat × Ent)) (ρ : Nat → Value) : Prop where
  ent : ∀ k e, h.lookup k = some e → ERep w (OwnO O h ρ) ρ k e
  lt : ∀ k e b, h.lookup k = some e → blk (ρ k) = some b → b < w.heap.size
  sep : ∀ k k' e e' b, h.lookup k = some e → h.lookup k' = some e' → blk (ρ k) = some b → blk (ρ k') = some b → k = k'
  out : ∀ k e b, h.lookup k = some e → blk (ρ k) = some b → ¬ O b
/-- Only what is lent is written. -/
structure BFrm (h : List (Nat × Ent)) (ρ : Nat → Value) (w w' : World) : Prop where
  os : w'.os = w.os
  tape : w'.tape = w.tape
  output : w'.output = w.output
  size : w.heap.size ≤ w'.heap.size
  block : ∀ b, b < w.heap.size → ¬ Bk h ρ b → w'.heap[b]? = w.heap[b]?
/-- A function that is lent entries (those of fx stay where they are). -/
def PFnB (P : Program) (f : FuncId) (args : List LV) (h : List (Nat × Ent)) (fx : List Nat) (R : LV → List (Nat × Ent) → Prop) : Prop :=
  ∀ (w : World) (O : Nat → Prop) (ρ : Nat → Value) (vs : Array Value), (∀ b, O b → b < w.heap.size) → Ents w O h ρ → vs.size = args.length →
    (∀ (i : Nat) (lv : LV) (u : Value), args[i]? = some lv → vs[i]? = some u → LRep w (OwnO O h ρ) ρ lv u) →
    Calls P f vs w fun e w' => ∃ (v : Value) (r : LV) (h' : List (Nat × Ent)) (ρ' : Nat → Value), e = .returned v ∧ R r h' ∧ BFrm h ρ w w' ∧ Ents w' O h' ρ' ∧ (∀ k, fx.contains k = true → ρ' k = ρ k) ∧
      (∀ k e b, h'.lookup k = some e → blk (ρ' k) = some b → w.heap.size ≤ b ∨ Bk h ρ b) ∧ LRep w' (OwnO O h' ρ') ρ' r v
theorem PFnB.mono {P : Program} {f : FuncId} {args : List LV} {h : List (Nat × Ent)} {fx : List Nat} {R R' : LV → List (Nat × Ent) → Prop} (hc : PFnB P f args h fx R) (hr : ∀ r h', R r h' → R' r h') : PFnB P f args h fx R' := by
  intro w O ρ vs h1 h2 h3 h4
  refine (hc w O ρ vs h1 h2 h3 h4).mono ?_
  rintro e w' ⟨v, r, h', ρ', q1, q2, q3⟩
  exact ⟨v, r, h', ρ', q1, hr _ _ q2, q3⟩
abbrev ctxB (P : Program) (w0 : World) (O M : Nat → Prop) (ρ : Nat → Value) (fx : List Nat) (n : Nat) : Ctx :=
  { P := P, w0 := w0, O := O, M := M, inn := fun k => if k < 1000 then none else if fx.contains k then some (ρ k) else none, n := n }
def ResB1 (P : Program) (σ : St) (r : ResultVar) (lv : LV) : Prop :=
  match r with
  | .tmp t => lv = σ.ev (.tmp t)
  | .cell t T => stepR P σ (.load T (.tmp t)) fun x => x = lv
def ResBL (P : Program) (σ : St) : List ResultVar → List LV → Prop
  | [], l => l = []
  | r :: rs, l => ∃ s l', ResB1 P σ r s ∧ ResBL P σ rs l' ∧ l = s :: l'
def tupB : List LV → Option LV
  | [x] => some x
  | l => (svs l).map fun l => .sv (.tup l)
def endB (P : Program) (rs : List ResultVar) (R : LV → List (Nat × Ent) → Prop) : Exit → St → Prop
  | .normal, σ | .ret, σ => ∃ l r, ResBL P σ rs l ∧ tupB l = some r ∧ R r σ.h
  | _, _ => False
section
variable {Γ : Ctx} {σ : St} {ρ : Nat → Value} {a : Act} {w : World}
end
/-! The caller's names for what is lent. -/
def rk (κ : List (Nat × Nat)) (j : Nat) : Nat := (κ.lookup j).getD 0
def ren (κ : List (Nat × Nat)) : LV → LV
  | .ptr k j => .ptr (rk κ k) j
  | .own k => .own (rk κ k)
  | .eptr k n i j => .eptr (rk κ k) n i j
  | .osub k n i => .osub (rk κ k) n i
  | .cfn f ks => .cfn f (ks.map (rk κ))
  | lv => lv
def renE (κ : List (Nat × Nat)) : Ent → Ent
  | .box l => .box (l.map (ren κ))
  | .rowl T l => .rowl T (l.map (ren κ))
  | e => e
def kinv (κ : List (Nat × Nat)) : List (Nat × Nat) := κ.map fun p => (p.2, p.1)
def kok (κ : List (Nat × Nat)) : Bool := κ.all fun p => ((kinv κ).lookup p.2 == some p.1) && (κ.lookup p.1 == some p.2)
/-- What does not hang on names that change. -/
def una (κ : List (Nat × Nat)) (fx : List Nat) (lv : LV) : Bool := κ.all fun p => fx.contains p.1 || !lv.mentions p.2
def unaE (κ : List (Nat × Nat)) (fx : List Nat) : Ent → Bool
  | .box l => l.all (una κ fx)
  | .rowl _ l => l.all (una κ fx)
  | _ => true
def LV.keys : LV → List Nat
  | .ptr k _ => [k]
  | .own k => [k]
  | .eptr k _ _ _ => [k]
  | .osub k _ _ => [k]
  | .cfn _ ks => ks
  | _ => []
/-- All names in it are names of what is lent or handed back. -/
def kn (κ : List (Nat × Nat)) (lv : LV) : Bool := lv.keys.all fun j => (κ.lookup j).isSome
def knE (κ : List (Nat × Nat)) : Ent → Bool
  | .box l => l.all (kn κ)
  | .rowl _ l => l.all (kn κ)
  | _ => true
def knH (κ : List (Nat × Nat)) (h : List (Nat × Ent)) : Bool := h.all fun p => (κ.lookup p.1).isSome && knE κ p.2
def keepT (κ : List (Nat × Nat)) (fx : List Nat) (t : List (Nat × LV)) : List (Nat × LV) := t.map fun p => (p.1, if una κ fx p.2 then p.2 else .dead)
def restH (κ : List (Nat × Nat)) (h : List (Nat × Ent)) : List (Nat × Ent) := h.filter fun p => ((kinv κ).lookup p.1).isNone
def renH (κ : List (Nat × Nat)) (h : List (Nat × Ent)) : List (Nat × Ent) := h.map fun p => (rk κ p.1, renE κ p.2)
theorem LRep.swap {w : World} {O : Nat → Prop} {ρ ρ2 : Nat → Value} {lv : LV} {v : Value} (h : LRep w O ρ lv v) (he : ∀ k, lv.mentions k = true → ρ2 k = ρ k) : LRep w O ρ2 lv v := by
  cases lv with
  | sv s => exact h
  | av Z s => exact h
  | dead => exact h
  | ptr k' j => have e := he k' (by simp [LV.mentions]); simpa only [LRep, e] using h
  | own k' => have e := he k' (by simp [LV.mentions]); simpa only [LRep, e] using h
  | eptr k' n i j => have e := he k' (by simp [LV.mentions]); simpa only [LRep, e] using h
  | osub k' n i => have e := he k' (by simp [LV.mentions]); simpa only [LRep, e] using h
  | cfn f ks =>
    show v = .func (.func f) #[] (ks.map ρ2).toArray
    rw [List.map_congr_left fun x hx => he x (by simpa [LV.mentions] using hx)]
    exact h
theorem lookup_mem {α : Type} {k : Nat} {v : α} : ∀ {l : List (Nat × α)}, l.lookup k = some v → (k, v) ∈ l
  | [], h => by simp at h
  | (a, x) :: t, h => by
    rw [List.lookup_cons] at h
    cases hk : (k == a) with
    | true =>
      have : k = a := by simpa using hk
      subst this
      simp only [hk, Option.some.injEq] at h
      subst h; exact List.mem_cons_self ..
    | false => simp only [hk] at h; exact List.mem_cons_of_mem _ (lookup_mem h)
section
variable {Γ : Ctx} {σ : St} {ρ : Nat → Value} {a : Act} {w : World}
end
end Go.Abs

/- Rows whose elements may be rows of ours; names changed; boxes and rows lent to a function that is called. No condition. -/
namespace Go.Abs
open Go Go.RowKit Go.Eager
set_option linter.unusedVariables false
set_option linter.unusedSimpArgs false
section
variable {Γ : Ctx} {σ : St} {ρ : Nat → Value} {a : Act} {w : World}
/-- An entry said in other words. -/
theorem Iv.conv (I : Iv Γ σ ρ a w) {k : Nat} {e e' : Ent} (hk : σ.h.lookup k = some e) (hE : ∀ O, ERep w O ρ k e → ERep w O ρ k e') : Iv Γ ⟨σ.t, ins k e' σ.h⟩ ρ a w := by
  have hO : ∀ b, Own Γ (ins k e' σ.h) ρ b → Own Γ σ.h ρ b := by
    rintro b (h | ⟨k1, e1, h1, hb⟩)
    · exact .inl h
    · rw [lookup_ins] at h1
      by_cases hkk : k1 = k
      · subst hkk; exact .inr ⟨k1, e, hk, hb⟩
      · rw [if_neg hkk] at h1; exact .inr ⟨k1, e1, h1, hb⟩
  have kp : Kp w (Own Γ σ.h ρ) w (Own Γ (ins k e' σ.h) ρ) := fun b _ hno => ⟨rfl, fun h => hno (hO b h)⟩
  have hl : ∀ k1 e1, (ins k e' σ.h).lookup k1 = some e1 → ∃ e2, σ.h.lookup k1 = some e2 := fun k1 e1 h1 => by
    rw [lookup_ins] at h1
    by_cases hkk : k1 = k
    · subst hkk; exact ⟨e, hk⟩
    · rw [if_neg hkk] at h1; exact ⟨e1, h1⟩
  refine ⟨I.dfr, I.size, I.frm, fun t lv h => (I.tmp t lv h).kp kp, fun k1 e1 h1 => ?_, fun k1 e1 b h1 hb => ?_, fun k1 k2 e1 e2 b h1 h2 hb1 hb2 => ?_, I.out, I.inn⟩
  · rw [lookup_ins] at h1
    by_cases hkk : k1 = k
    · subst hkk
      rw [if_pos rfl] at h1; cases h1
      exact (hE _ (I.ent k1 e hk)).step kp (fun _ _ => rfl) rfl fun _ _ _ _ _ _ h => h
    · rw [if_neg hkk] at h1
      exact (I.ent k1 e1 h1).step kp (fun _ _ => rfl) rfl fun _ _ _ _ _ _ h => h
  · obtain ⟨e2, h2⟩ := hl k1 e1 h1
    exact I.new k1 e2 b h2 hb
  · obtain ⟨e3, h3⟩ := hl k1 e1 h1
    obtain ⟨e4, h4⟩ := hl k2 e2 h2
    exact I.sep k1 k2 e3 e4 b h3 h4 hb1 hb2
def fzl (k n : Nat) (l : List SV) : LV → LV
  | .own k' => if k' = k then .sv (.sl n l) else .own k'
  | lv => lv
def fzE (k n : Nat) (l : List SV) : Ent → Ent
  | .box c => .box (c.map (fzl k n l))
  | .rowl T c => .rowl T (c.map (fzl k n l))
  | e => e
def fzH (k n : Nat) (l : List SV) (h : List (Nat × Ent)) : List (Nat × Ent) := (dropH k h).map fun p => (p.1, fzE k n l p.2)
theorem fzH_lookup {k n : Nat} {l : List SV} {k1 : Nat} {e : Ent} : ∀ {h : List (Nat × Ent)}, (h.map fun p => (p.1, fzE k n l p.2)).lookup k1 = some e → ∃ e0, h.lookup k1 = some e0 ∧ e = fzE k n l e0
  | [], h => by simp at h
  | (a, x) :: t, h => by
    rw [List.map_cons, List.lookup_cons] at h
    rw [List.lookup_cons]
    cases hk : (k1 == a) with
    | true => simp only [hk, Option.some.injEq] at h ⊢; exact ⟨x, rfl, h.symm⟩
    | false => simp only [hk] at h ⊢; exact fzH_lookup h
/-- Freeze: also in boxes and rows of rows. -/
theorem Iv.freezeH (I : Iv Γ σ ρ a w) {k n T : Nat} {l : List SV} (hk : σ.h.lookup k = some (.row n T l)) : Iv Γ ⟨fzT k n l σ.t, fzH k n l σ.h⟩ ρ a w := by
  have hv := row_view I hk
  have J := I.freeze hk
  have hO : ∀ b, Own Γ (fzH k n l σ.h) ρ b → Own Γ (dropH k σ.h) ρ b := by
    rintro b (h | ⟨k1, e1, h1, hb⟩)
    · exact .inl h
    · obtain ⟨e0, h0, _⟩ := fzH_lookup h1
      exact .inr ⟨k1, e0, h0, hb⟩
  have kp : Kp w (Own Γ (dropH k σ.h) ρ) w (Own Γ (fzH k n l σ.h) ρ) := fun b _ hno => ⟨rfl, fun h => hno (hO b h)⟩
  have hL : ∀ {lv : LV} {u : Value}, LRep w (Own Γ (dropH k σ.h) ρ) ρ lv u → LRep w (Own Γ (fzH k n l σ.h) ρ) ρ (fzl k n l lv) u := by
    intro lv u h
    cases lv with
    | own k' =>
      by_cases hkk : k' = k
      · subst hkk
        have : u = ρ k' := h
        subst this
        simp only [fzl, if_true]
        exact Rep.kp hv kp
      · simp only [fzl, if_neg hkk]; exact h
    | _ => exact LRep.kp h kp
  refine ⟨J.dfr, J.size, J.frm, fun t lv h => (J.tmp t lv h).kp kp, fun k1 e1 h1 => ?_, fun k1 e1 b h1 hb => ?_, fun k1 k2 e1 e2 b h1 h2 hb1 hb2 => ?_, J.out, J.inn⟩
  · obtain ⟨e0, h0, rfl⟩ := fzH_lookup h1
    have hE := J.ent k1 e0 h0
    cases e0 with
    | box c =>
      obtain ⟨b, T, cur, q1, q2, q3, q4⟩ := hE
      refine ⟨b, T, cur, q1, q2, by simpa using q3, fun j lv u hj hu => ?_⟩
      rw [List.getElem?_map] at hj
      cases hq : c[j]? with
      | none => simp [hq] at hj
      | some lv0 => simp [hq] at hj; subst hj; exact ⟨hL (q4 j lv0 u hq hu).1, (q4 j lv0 u hq hu).2⟩
    | rowl T c =>
      obtain ⟨xs, q1, q2⟩ := hE
      refine ⟨xs, by simpa using q1, fun j lv u hj hu => ?_⟩
      rw [List.getElem?_map] at hj
      cases hq : c[j]? with
      | none => simp [hq] at hj
      | some lv0 => simp [hq] at hj; subst hj; exact ⟨hL (q2 j lv0 u hq hu).1, (q2 j lv0 u hq hu).2⟩
    | row sz T l' => exact hE.step kp (fun _ _ => rfl) rfl fun _ _ _ _ _ _ h => h
    | map kk es => exact hE.step kp (fun _ _ => rfl) rfl fun _ _ _ _ _ _ h => h
  · obtain ⟨e0, h0, rfl⟩ := fzH_lookup h1
    exact J.new k1 e0 b h0 hb
  · obtain ⟨e3, h3, _⟩ := fzH_lookup h1
    obtain ⟨e4, h4, _⟩ := fzH_lookup h2
    exact J.sep k1 k2 e3 e4 b h3 h4 hb1 hb2
/-! Names changed. -/
def LV.mapK (f : Nat → Nat) : LV → LV
  | .ptr k j => .ptr (f k) j
  | .own k => .own (f k)
  | .eptr k n i j => .eptr (f k) n i j
  | .osub k n i => .osub (f k) n i
  | .cfn g ks => .cfn g (ks.map f)
  | lv => lv
def Ent.mapK (f : Nat → Nat) : Ent → Ent
  | .box l => .box (l.map (LV.mapK f))
  | .rowl T l => .rowl T (l.map (LV.mapK f))
  | e => e
def rn (d K0 j : Nat) : Nat := if j = d then K0 else j
def clrT (k : Nat) (t : List (Nat × LV)) : List (Nat × LV) := t.map fun p => (p.1, if p.2.mentions k then .dead else p.2)
def mapT (f : Nat → Nat) (t : List (Nat × LV)) : List (Nat × LV) := t.map fun p => (p.1, p.2.mapK f)
def mapH (f : Nat → Nat) (h : List (Nat × Ent)) : List (Nat × Ent) := h.map fun p => (f p.1, p.2.mapK f)
theorem clrT_lookup {k s : Nat} {lv : LV} : ∀ {t : List (Nat × LV)}, (clrT k t).lookup s = some lv → (t.lookup s = some lv ∧ lv.mentions k = false) ∨ lv = .dead
  | [], h => by simp [clrT] at h
  | (a, x) :: t, h => by
    simp only [clrT, List.map_cons, List.lookup_cons] at h ⊢
    cases hk : (s == a) with
    | true =>
      simp only [hk, Option.some.injEq] at h ⊢
      split at h
      · exact .inr h.symm
      · rename_i hm; subst h; exact .inl ⟨rfl, by simpa using hm⟩
    | false => simp only [hk] at h ⊢; exact clrT_lookup h
theorem mapT_lookup {f : Nat → Nat} {s : Nat} {lv : LV} : ∀ {t : List (Nat × LV)}, (mapT f t).lookup s = some lv → ∃ lv0, t.lookup s = some lv0 ∧ lv = lv0.mapK f
  | [], h => by simp [mapT] at h
  | (a, x) :: t, h => by
    simp only [mapT, List.map_cons, List.lookup_cons] at h ⊢
    cases hk : (s == a) with
    | true => simp only [hk, Option.some.injEq] at h ⊢; exact ⟨x, rfl, h.symm⟩
    | false => simp only [hk] at h ⊢; exact mapT_lookup h
theorem mapH_lookup {d K0 s : Nat} {e : Ent} : ∀ {h : List (Nat × Ent)}, (∀ p ∈ h, p.1 ≠ K0) → (mapH (rn d K0) h).lookup s = some e → ∃ j e0, h.lookup j = some e0 ∧ rn d K0 j = s ∧ e = e0.mapK (rn d K0)
  | [], _, h => by simp [mapH] at h
  | (a, x) :: t, hs, h => by
    simp only [mapH, List.map_cons, List.lookup_cons] at h
    cases hk : (s == rn d K0 a) with
    | true =>
      have : s = rn d K0 a := by simpa using hk
      simp only [hk, Option.some.injEq] at h
      exact ⟨a, x, by simp, this.symm, h.symm⟩
    | false =>
      simp only [hk] at h
      obtain ⟨j, e0, h1, h2, h3⟩ := mapH_lookup (h := t) (fun p hp => hs p (List.mem_cons_of_mem _ hp)) h
      refine ⟨j, e0, ?_, h2, h3⟩
      rw [List.lookup_cons]
      have : (j == a) = false := by
        cases hj : (j == a) with
        | false => rfl
        | true =>
          have : j = a := by simpa using hj
          subst this
          rw [h2] at hk; simp at hk
      simp only [this]; exact h1
theorem mapK_rep {O : Nat → Prop} {ρ : Nat → Value} {f : Nat → Nat} {lv : LV} {v : Value} : LRep w O (fun j => ρ (f j)) lv v ↔ LRep w O ρ (lv.mapK f) v := by
  cases lv with
  | cfn g ks => show (v = .func (.func g) #[] (ks.map _).toArray) ↔ (v = .func (.func g) #[] ((ks.map f).map ρ).toArray); rw [List.map_map]; rfl
  | _ => exact Iff.rfl
theorem mapK_erep {O : Nat → Prop} {ρ : Nat → Value} {f : Nat → Nat} {j : Nat} {e : Ent} (h : ERep w O (fun j => ρ (f j)) j e) : ERep w O ρ (f j) (e.mapK f) := by
  have hd : ∀ (l : List LV) (i : Nat) (lv : LV), (l.map (LV.mapK f))[i]? = some lv → ∃ lv0, l[i]? = some lv0 ∧ lv = lv0.mapK f := fun l i lv h => by
    rw [List.getElem?_map] at h
    cases hq : l[i]? with
    | none => simp [hq] at h
    | some q => simp [hq] at h; exact ⟨q, rfl, h.symm⟩
  cases e with
  | box l =>
    obtain ⟨b, T, cur, h1, h2, h3, h4⟩ := h
    refine ⟨b, T, cur, h1, h2, by simpa using h3, fun i lv u hi hu => ?_⟩
    obtain ⟨lv0, h5, rfl⟩ := hd l i lv hi
    exact ⟨mapK_rep.1 (h4 i lv0 u h5 hu).1, (h4 i lv0 u h5 hu).2⟩
  | rowl T l =>
    obtain ⟨xs, h1, h2⟩ := h
    refine ⟨xs, by simpa using h1, fun i lv u hi hu => ?_⟩
    obtain ⟨lv0, h5, rfl⟩ := hd l i lv hi
    exact ⟨mapK_rep.1 (h2 i lv0 u h5 hu).1, (h2 i lv0 u h5 hu).2⟩
  | row n T l => exact h
  | map kk es => exact h
theorem Iv.renm (I : Iv Γ σ ρ a w) {K0 d : Nat} (hm : (dropH K0 σ.h).all (fun p => !p.2.mentions K0) = true) (hi : Γ.inn K0 = none) (hd : Γ.inn d = none) : Iv Γ ⟨mapT (rn d K0) (clrT K0 σ.t), mapH (rn d K0) (dropH K0 σ.h)⟩ (upd ρ K0 (ρ d)) a w := by
  let f := rn d K0
  let ρ2 := upd ρ K0 (ρ d)
  have hρ : ∀ j, j ≠ K0 → ρ2 (f j) = ρ j := by
    intro j hj
    by_cases hjd : j = d
    · subst hjd; simp only [f, rn, if_true, ρ2]; exact upd_at _ _ _
    · simp only [f, rn, if_neg hjd, ρ2]; exact upd_ne _ _ hj
  have hne : ∀ p ∈ dropH K0 σ.h, p.1 ≠ K0 := fun p hp => by simp [dropH] at hp; exact hp.2
  have hl : ∀ k e, (mapH f (dropH K0 σ.h)).lookup k = some e → ∃ j e0, σ.h.lookup j = some e0 ∧ j ≠ K0 ∧ f j = k ∧ e = e0.mapK f ∧ ρ2 k = ρ j ∧ e0.mentions K0 = false := by
    intro k e h
    obtain ⟨j, e0, h1, h2, h3⟩ := mapH_lookup hne h
    obtain ⟨h4, h5⟩ := dropH_lookup h1
    refine ⟨j, e0, h4, h5, h2, h3, by rw [← h2]; exact hρ j h5, ?_⟩
    have := List.all_eq_true.1 hm (j, e0) (lookup_mem h1)
    simpa using this
  have kp : Kp w (Own Γ σ.h ρ) w (Own Γ (mapH f (dropH K0 σ.h)) ρ2) := by
    intro b _ hno
    refine ⟨rfl, ?_⟩
    rintro (hO | ⟨k, e, hk, hb⟩)
    · exact hno (.inl hO)
    · obtain ⟨j, e0, h1, h2, h3, h4, h5, _⟩ := hl k e hk
      rw [h5] at hb
      exact hno (.inr ⟨j, e0, h1, hb⟩)
  have hfinj : ∀ j j', j ≠ K0 → j' ≠ K0 → f j = f j' → j = j' := by
    intro j j' h1 h2 h3
    simp only [f, rn] at h3
    split at h3 <;> split at h3 <;> first | (subst_vars; rfl) | (exact absurd h3.symm h2) | (exact absurd h3 h1) | exact h3
  have hLV : ∀ {lv : LV} {u : Value}, LRep w (Own Γ σ.h ρ) ρ lv u → lv.mentions K0 = false → LRep w (Own Γ (mapH f (dropH K0 σ.h)) ρ2) ρ2 (lv.mapK f) u := by
    intro lv u h hmn
    refine mapK_rep.1 ((h.kp kp).swap (ρ2 := fun j => ρ2 (f j)) fun k hk => hρ k ?_)
    rintro rfl
    rw [hmn] at hk; cases hk
  refine ⟨I.dfr, I.size, I.frm, fun t lv h => ?_, fun k e h => ?_, fun k e b h hb => ?_, fun k k' e e' b h h' hb hb' => ?_, I.out, fun k v hv => ?_⟩
  · obtain ⟨lv0, h1, rfl⟩ := mapT_lookup h
    rcases clrT_lookup h1 with ⟨h2, h3⟩ | rfl
    · exact hLV (I.tmp t lv0 h2) h3
    · exact trivial
  · obtain ⟨j, e0, h1, h2, h3, rfl, h5, h6⟩ := hl k e h
    subst h3
    refine mapK_erep ((I.ent j e0 h1).step kp (fun _ _ => rfl) h5 ?_)
    intro cells hc i lv u hi2 hlv
    refine hlv.swap fun k hk => hρ k ?_
    rintro rfl
    rcases hc with rfl | ⟨T, rfl⟩ <;>
    · simp only [Ent.mentions, List.any_eq_false] at h6
      have := h6 lv (List.mem_of_getElem? hi2)
      rw [hk] at this; simp at this
  · obtain ⟨j, e0, h1, h2, h3, rfl, h5, h6⟩ := hl k e h
    have h7 : upd ρ K0 (ρ d) k = ρ j := h5
    rw [h7] at hb
    exact I.new j e0 b h1 hb
  · obtain ⟨j, e0, h1, h2, h3, rfl, h5, h6⟩ := hl k e h
    obtain ⟨j', e0', h1', h2', h3', rfl, h5', h6'⟩ := hl k' e' h'
    have h7 : upd ρ K0 (ρ d) k = ρ j := h5
    have h7' : upd ρ K0 (ρ d) k' = ρ j' := h5'
    rw [h7] at hb
    rw [h7'] at hb'
    have := I.sep j j' e0 e0' b h1 h1' hb hb'
    subst this
    rw [← h3, ← h3']
  · by_cases hk : k = K0
    · subst hk; rw [hi] at hv; cases hv
    · show ρ2 k = v
      simp only [ρ2]
      rw [upd_ne _ _ hk]; exact I.inn k v hv
end
/-- A frame in other words: steps that no operation makes. -/
theorem Le.trans {Γ : Ctx} {a b c : St} (h1 : Le Γ a b) (h2 : Le Γ b c) : Le Γ a c := fun x w I => h1 x w (h2 x w I)
theorem le_rn {Γ : Ctx} {t : List (Nat × LV)} {h : List (Nat × Ent)} (K0 d : Nat) (hm : (dropH K0 h).all (fun p => !p.2.mentions K0) = true) (hi : Γ.inn K0 = none) (hd : Γ.inn d = none) : Le Γ ⟨mapT (rn d K0) (clrT K0 t), mapH (rn d K0) (dropH K0 h)⟩ ⟨t, h⟩ :=
  fun _ _ ⟨_, I⟩ => ⟨_, I.renm hm hi hd⟩
theorem le_fz {Γ : Ctx} {t : List (Nat × LV)} {h : List (Nat × Ent)} {n T : Nat} {l : List SV} (k : Nat) (hk : h.lookup k = some (.row n T l)) : Le Γ ⟨fzT k n l t, fzH k n l h⟩ ⟨t, h⟩ := fun _ _ ⟨_, I⟩ => ⟨_, I.freezeH hk⟩
section
variable {Γ : Ctx} {ops : Array Oper} {l : List (Oper × Nat)} {σ : St} {t : List (Nat × LV)} {h : List (Nat × Ent)} {K : St → Prop} {c d ty : Nat} {ps : String} {af : Array Edge} {x y : Operand}
/-- Within a region: a step that no operation makes. -/
theorem run_le {l : List (Oper × Nat)} {σ' : St} (hl : Le Γ σ' σ) (hk : RunL Γ ops l σ' K) : RunL Γ ops l σ K := fun hd a w I => hk hd a w (hl a w I)
end
end Go.Abs

/- Calls of functions that are lent boxes and rows of ours; functions that hold boxes of ours; rows of rows that grow. No condition. -/
namespace Go.Abs
open Go Go.RowKit Go.Eager
set_option linter.unusedVariables false
set_option linter.unusedSimpArgs false
def ChOk (κ : List (Nat × Nat)) (h : List (Nat × Ent)) : List (Nat × Ent) → Prop
  | [] => True
  | (j, e) :: c => ((κ.lookup j).isSome = true ∧ h.lookup (rk κ j) = some (renE κ e)) ∧ ChOk κ h c
def InOk (Γ : Ctx) (fx : List Nat) : List (Nat × Nat) → Prop
  | [] => True
  | (j, k) :: r => (fx.contains j = true ∨ Γ.inn k = none) ∧ InOk Γ fx r
def BxOk (h : List (Nat × Ent)) : List Nat → Prop
  | [] => True
  | k :: r => (∃ c, h.lookup k = some (.box c)) ∧ BxOk h r
section
variable {Γ : Ctx} {ops : Array Oper} {l : List (Oper × Nat)} {t : List (Nat × LV)} {h : List (Nat × Ent)} {K : St → Prop} {c d ty : Nat} {ps : String} {af : Array Edge} {x y : Operand}
end
end Go.Abs

/- As Eager: 'a later world' is any that a relation of ours says. No condition. -/
namespace Go.EagerX
open Go Go.RowKit Go.Eager
set_option linter.unusedVariables false
set_option linter.unusedSimpArgs false
section
variable (E : World → World → Prop) (P : Program) (ops : Array Oper) (cls : Nat → Nat) (Q : Act → World → Prop)

/-- Classes: 0 the world does not matter; 1 a later world does not matter; 2 any; 3 it leaves all that is as it is. -/
def opN (i : Nat) (K : Act → World → Prop) (a : Act) (w : World) : Prop :=
  match ops[i]? with
  | none => K a w
  | some o => if Region.wanted o (yielded ops a.tmps) then oN P o a w (fun v w' => (cls i ≠ 2 → E w w') ∧ K (a.put o.dst v) w') else K (a.put o.dst undef) w

def anyN : Nat → Array Bool → Act → World → Prop
  | 0, listed, a, w => Region.ready .any ops listed = [] ∧ Q a w
  | n + 1, listed, a, w => (Region.ready .any ops listed = [] → Q a w) ∧ ∀ i ∈ Region.ready .any ops listed, opN E P ops cls i (anyN n (listed.setIfInBounds i true)) a w

theorem opN_mono {E : World → World → Prop} {P : Program} {ops : Array Oper} {cls : Nat → Nat} {i : Nat} {a : Act} {w : World} {K K' : Act → World → Prop} (h : ∀ a w, K a w → K' a w) (hh : opN E P ops cls i K a w) : opN E P ops cls i K' a w := by
  unfold opN at *
  split
  · exact h _ _ (by simpa [*] using hh)
  · rename_i o ho
    simp only [ho] at hh
    split
    · rename_i hw; simp only [hw, if_true] at hh; exact oN_mono (fun v w' hk => ⟨hk.1, h _ _ hk.2⟩) hh
    · rename_i hw; simp only [hw] at hh; exact h _ _ hh

theorem wpAny_of_anyN {E : World → World → Prop} {P : Program} {ops : Array Oper} {cls : Nat → Nat} {Q : Act → World → Prop} {Q' : Exit → Act → World → Prop} (hQ : ∀ a w, Q a w → Q' .normal a w) :
    ∀ (n : Nat) (listed : Array Bool) (a : Act) (w : World), anyN E P ops cls Q n listed a w → wpAny P .any ops Q' n listed a w
  | 0, _, _, _, h => ⟨h.1, hQ _ _ h.2⟩
  | n + 1, listed, a, w, h => ⟨fun h0 => hQ _ _ (h.1 h0), fun i hi => by
      have h2 := h.2 i hi
      unfold opN at h2
      unfold wpOp
      cases ho : ops[i]? with
      | none => simp only [ho] at h2 ⊢; exact wpAny_of_anyN hQ n _ _ _ h2
      | some o =>
        simp only [ho] at h2 ⊢
        split
        · rename_i hw; simp only [hw, if_true] at h2
          exact .inl (oN_wp (oN_mono (fun v w' hk => wpAny_of_anyN hQ n _ _ _ hk.2) h2))
        · rename_i hw; simp only [hw] at h2; exact wpAny_of_anyN hQ n _ _ _ h2⟩

/-- The value of an operation, in this world and in those that it may stand in as well. -/
def Stands (c : Nat) (o : Oper) (a : Act) (w : World) (v : Value) : Prop :=
  (Region.wanted o (yielded ops a.tmps) = true ∧ ∀ w', (c = 0 ∨ E w w') → (execOp a.eval o).run P w' = .ok (.value v) w') ∨
  (Region.wanted o (yielded ops a.tmps) = false ∧ v = undef)

theorem Stands.later {E : World → World → Prop} (ht : ∀ a b c : World, E a b → E b c → E a c) {P : Program} {ops : Array Oper} {c : Nat} {o : Oper} {a : Act} {w w' : World} {v : Value} (h : Stands E P ops c o a w v) (hw : c = 0 ∨ E w w') : Stands E P ops c o a w' v := by
  rcases h with ⟨h1, h2⟩ | h
  · refine .inl ⟨h1, fun w'' h'' => h2 w'' ?_⟩
    rcases hw with hw | hw
    · exact .inl hw
    · rcases h'' with h'' | h''
      · exact .inl h''
      · exact .inr (ht _ _ _ hw h'')
  · exact .inr h

theorem Stands.of_same {E : World → World → Prop} {P : Program} {ops : Array Oper} {c : Nat} {o : Oper} {a a' : Act} {w : World} {v : Value} (h : Stands E P ops c o a w v) (he : execOp a'.eval o = execOp a.eval o)
    (hw : Region.wanted o (yielded ops a'.tmps) = Region.wanted o (yielded ops a.tmps)) : Stands E P ops c o a' w v := by
  unfold Stands at *; rw [he, hw]; exact h

def closedB (B : Array (List Nat)) : Bool :=
  (List.range ops.size).all fun j => (B.getD j []).all fun m => ((ops[j]?).map fun o => o.after.any fun e => Region.binds .any e && (e.on == m || (B.getD e.on []).contains m)).getD false

def Shut (B : Array (List Nat)) (listed : Array Bool) : Prop := ∀ k m, listed.getD k false = true → m ∈ B.getD k [] → listed.getD m false = true

theorem opN_put {E : World → World → Prop} (ht : ∀ a b c : World, E a b → E b c → E a c) {P : Program} {ops : Array Oper} {cls : Nat → Nat} {j c : Nat} {oi oj : Oper} {v : Value} {w : World} (hj : ops[j]? = some oj) (hap : oi.apart ops oj = true) (hc : c = 0 ∨ cls j ≠ 2)
    (hsi : ∀ cs b, oi.op ≠ .select cs b) (hsj : ∀ cs b, oj.op ≠ .select cs b) {K : Act → World → Prop} {a : Act}
    (hy : Stands E P ops c oi a w v) (h : opN E P ops cls j K (a.put oi.dst v) w) :
    opN E P ops cls j (fun a' w' => Stands E P ops c oi a' w' v ∧ K (a'.put oi.dst v) w') a w := by
  obtain ⟨h1, h2, h3⟩ := Oper.apart_spec hap
  have keep : ∀ (a : Act) (w : World), Stands E P ops c oi a w v → ∀ u, Stands E P ops c oi (a.put oj.dst u) w v := fun a w hy u =>
    hy.of_same (execOp_put oi hsi a oj.dst u h3) (wanted_put oi a oj.dst u h3)
  unfold opN at *
  simp only [hj] at *
  rw [wanted_put oj a oi.dst v h1] at h
  split
  · rename_i hw
    simp only [hw, if_true] at h
    unfold oN at h
    rw [execOp_put oj hsj a oi.dst v h1] at h
    refine oN_mono (K := fun u w' => (cls j ≠ 2 → E w w') ∧ K ((a.put oi.dst v).put oj.dst u) w') ?_ h
    rintro u w' ⟨he, hk⟩
    refine ⟨he, keep a w' (hy.later ht (hc.imp id he)) u, ?_⟩
    rw [← Act.put_comm a v u h2]; exact hk
  · rename_i hw
    simp only [hw] at h
    exact ⟨keep a w hy _, by rw [← Act.put_comm a v undef h2]; exact h⟩

theorem anyN_first {E : World → World → Prop} (hr0 : ∀ w, E w w) (ht : ∀ a b c : World, E a b → E b c → E a c) {P : Program} {ops : Array Oper} {cls : Nat → Nat} {Q : Act → World → Prop} {B : Array (List Nat)} (hB : closedB ops B = true) {i c : Nat} {oi : Oper} {v : Value} (hi : ops[i]? = some oi) (hci : cls i ≠ 2)
    (hsel : ∀ (j : Nat) (o : Oper) cs b, ops[j]? = some o → o.op ≠ .select cs b) :
    ∀ (fuel : Nat) (listed : Array Bool) (a : Act) (w : World), Shut B listed →
      (∀ j oj, ops[j]? = some oj → j ≠ i → listed.getD j true = false → i ∉ B.getD j [] → oi.apart ops oj = true ∧ (c = 0 ∨ cls j ≠ 2)) →
      i ∈ Region.ready .any ops listed → Stands E P ops c oi a w v →
      anyN E P ops cls Q fuel (listed.setIfInBounds i true) (a.put oi.dst v) w → anyN E P ops cls Q (fuel + 1) listed a w := by
  have own : ∀ {K : Act → World → Prop} {a : Act} {w : World}, Stands E P ops c oi a w v → K (a.put oi.dst v) w → opN E P ops cls i K a w := by
    intro K a w hy hk
    unfold opN
    simp only [hi]
    rcases hy with ⟨hw, hv⟩ | ⟨hw, rfl⟩
    · simp only [hw, if_true]; unfold oN; rw [hv w (.inr (hr0 w))]; exact ⟨fun _ => hr0 w, hk⟩
    · simp only [hw]; exact hk
  intro fuel
  induction fuel with
  | zero =>
    intro listed a w _ _ hr hy H
    refine ⟨fun h => (by rw [h] at hr; cases hr), fun j hj => ?_⟩
    by_cases hji : j = i
    · subst hji; exact own hy H
    · have := ready_mono hj hji
      rw [H.1] at this
      cases this
  | succ fuel ih =>
    intro listed a w hS hfree hr hy H
    refine ⟨fun h => (by rw [h] at hr; cases hr), fun j hj => ?_⟩
    by_cases hji : j = i
    · subst hji; exact own hy H
    · have h1 := H.2 j (ready_mono hj hji)
      obtain ⟨hjun, oj, hoj, _⟩ := mem_ready.1 hj
      have hnot : i ∉ B.getD j [] := ready_not_waits hB hS hj (unlisted_of_ready hr)
      have hf := hfree j oj hoj hji hjun hnot
      have h2 := opN_put ht hoj hf.1 hf.2 (fun cs b => hsel i oi cs b hi) (fun cs b => hsel j oj cs b hoj) hy h1
      have hfree' : ∀ k ok, ops[k]? = some ok → k ≠ i → (listed.setIfInBounds j true).getD k true = false → i ∉ B.getD k [] → oi.apart ops ok = true ∧ (c = 0 ∨ cls k ≠ 2) := fun k ok hk hki hun hno => by
        refine hfree k ok hk hki ?_ hno
        by_cases hjk : j = k
        · subst hjk; exact hjun
        · rw [getD_set_ne true hjk] at hun; exact hun
      refine opN_mono (fun a' w' h3 => ih (listed.setIfInBounds j true) a' w' (Go.Eager.Shut.add hB hS hj) hfree' (ready_mono hr (Ne.symm hji)) h3.1 ?_) h2
      rw [Array.setIfInBounds_comm _ _ hji]
      exact h3.2

/-- The walk in our own order. -/
def wpE : List Nat → Act → World → Prop
  | [], a, w => Q a w
  | i :: s, a, w =>
    match ops[i]? with
    | none => False
    | some o =>
      if cls i ≤ 1 then ∃ v, Stands E P ops (cls i) o a w v ∧ wpE s (a.put o.dst v) w
      else opN E P ops cls i (wpE s) a w

theorem anyN_of_wpE {E : World → World → Prop} (hr0 : ∀ w, E w w) (ht : ∀ a b c : World, E a b → E b c → E a c) {P : Program} {ops : Array Oper} {cls : Nat → Nat} {Q : Act → World → Prop} {B : Array (List Nat)} (hB : closedB ops B = true) (hs : Region.noSelect ops = true) :
    ∀ (s : List Nat) (listed : Array Bool) (a : Act) (w : World), Shut B listed → chk ops cls B s listed = true → wpE E P ops cls Q s a w → anyN E P ops cls Q s.length listed a w
  | [], listed, a, w, _, hc, h => ⟨by simpa [chk] using hc, h⟩
  | i :: s, listed, a, w, hS, hc, h => by
    simp only [chk, Bool.and_eq_true] at hc
    obtain ⟨⟨hr, hf⟩, hc'⟩ := hc
    have hr' : i ∈ Region.ready .any ops listed := by simpa using hr
    unfold wpE at h
    cases hi : ops[i]? with
    | none => simp only [hi] at h
    | some oi =>
      simp only [hi] at h
      by_cases hl : cls i ≤ 1
      · simp only [hl, if_true] at h hf
        obtain ⟨v, hy, hk⟩ := h
        have ih := anyN_of_wpE hr0 ht hB hs s (listed.setIfInBounds i true) (a.put oi.dst v) w (Go.Eager.Shut.add hB hS hr') hc' hk
        simp only [hi, Option.map_some, Option.getD_some, List.all_eq_true, List.mem_range] at hf
        refine anyN_first hr0 ht hB (c := cls i) hi (by omega) (Region.noSelect_spec hs) s.length listed a w hS ?_ hr' hy ih
        intro j oj hoj hji hun hno
        have h1 := hf j (Array.getElem?_eq_some_iff.1 hoj).1
        simp only [hoj, Option.map_some, Option.getD_some, Bool.or_eq_true, Bool.and_eq_true, beq_iff_eq, bne_iff_ne, ne_eq, List.contains_iff_mem] at h1
        rcases h1 with ((h1 | h1) | h1) | h1
        · exact absurd h1 hji
        · rw [h1] at hun; cases hun
        · exact absurd h1 hno
        · exact ⟨h1.1, h1.2⟩
      · simp only [hl, if_false] at h hf
        have hre : Region.ready .any ops listed = [i] := by simpa using hf
        refine ⟨fun h0 => (by rw [h0] at hr'; cases hr'), fun j hj => ?_⟩
        rw [hre] at hj
        obtain rfl : j = i := by simpa using hj
        exact opN_mono (fun a' w' h3 => anyN_of_wpE hr0 ht hB hs s _ a' w' (Go.Eager.Shut.add hB hS hr') hc' h3) h

/-- **A region that draws its order, by one walk in the order 's'.** -/
theorem wp_region_eager {E : World → World → Prop} (hr0 : ∀ w, E w w) (ht : ∀ a b c : World, E a b → E b c → E a c) {P : Program} {ops : Array Oper} {id : Nat} {Q : Exit → Act → World → Prop} {a : Act} {w : World} (cls : Nat → Nat) (B : Array (List Nat)) (s : List Nat)
    (hm : P.follows .mixedOrders = true) (hc : (closedB ops B && Region.noSelect ops && (s.length == ops.size) && chk ops cls B s (Array.replicate ops.size false)) = true)
    (h : wpE E P ops cls (Q .normal) s a { w with drawn := w.drawn + 1 }) : (Code.region id ops true).wp P Q a w := by
  simp only [Bool.and_eq_true, beq_iff_eq] at hc
  obtain ⟨⟨⟨hB, hs⟩, hl⟩, hk⟩ := hc
  refine wp_region_any hm (wpAny_of_anyN (E := E) (cls := cls) (fun _ _ h => h) _ _ _ _ ?_)
  have := anyN_of_wpE hr0 ht hB hs s (Array.replicate ops.size false) a { w with drawn := w.drawn + 1 } (fun k m hk _ => by
    by_cases hlt : k < ops.size <;> simp [hlt] at hk) hk h
  rwa [hl] at this
end
end Go.EagerX
