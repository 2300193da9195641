/- The bytes of a text as a row. No condition. -/
import Derived.Test.YtlokejcoikddgaaAbsRek
import Derived.Lib.ConvBytes
import Derived.Laws.AppendOwn
import Derived.Laws.BytesString
namespace Go.Abs
open Go Go.RowKit Go.Eager
set_option linter.unusedVariables false
theorem bytes_ext (w : World) (e : TypeId) (s : ByteArray) : Ext w (Lib.bytesWorld w e s) := by
  refine ⟨?_, ?_, ?_, ?_, fun k hk => Lib.bytesWorld_at_old w e s k hk⟩
  · simp [Lib.bytesWorld, World.freeze, World.alloc, World.drew, -World.alloc_eq, -World.drew_eq]
  · simp [Lib.bytesWorld, World.freeze, World.alloc, World.drew, -World.alloc_eq, -World.drew_eq]
  · simp [Lib.bytesWorld, World.freeze, World.alloc, World.drew, -World.alloc_eq, -World.drew_eq]
  · rw [Lib.bytesWorld_size]; omega
theorem rep_sl {w : World} {O : Nat → Prop} {n : Nat} {l : List SV} {v : Value} (h : Rep w O (.sl n l) v) : ∃ q m c, v = .slice q m c := by cases h <;> exact ⟨_, _, _, rfl⟩
theorem rep_raw' {w : World} {O : Nat → Prop} {v u : Value} (h : Rep w O (.raw u) v) : v = u := by cases h; rfl
@[reducible] def byteSV (b : UInt8) : SV := .raw (.int .u8 b.toNat)
theorem fold_push : ∀ (bs : List UInt8) (r : ByteArray), (bs.map fun b => (b.toNat : Int)).foldl (fun r n => r.push (UInt8.ofNat n.toNat)) r = ⟨r.data ++ bs.toArray⟩
  | [], r => by simp
  | b :: bs, r => by
    simp only [List.map_cons, List.foldl_cons, Int.toNat_natCast, UInt8.ofNat_toNat]
    rw [fold_push bs (r.push b)]
    simp [ByteArray.push]
/-- A row of bytes, read as a text. -/
theorem run_rep_string {P : Program} {w : World} {O : Nat → Prop} {bs : List UInt8} {v : Value} (h : Rep w O (.sl 1 (bs.map byteSV)) v) : (Conv.bytesToString v).run P w = .ok (.string ⟨bs.toArray⟩) w := by
  generalize hl : bs.map byteSV = l at h
  cases h with
  | nil sz a c =>
    have hb : bs = [] := by cases bs with | nil => rfl | cons b bs => simp at hl
    subst hb
    cases a with
    | none => simp [Conv.bytesToString, Sem.run_pure]; rfl
    | some a =>
      have := run_bytesToString (P := P) w a 0 c [] (by have := run_loadCells_list (P := P) (w := w) a [] (by simp); simpa using this)
      rw [this]; rfl
  | sl sz l b off c vals hb hl' hc hz h1 h2 h3 =>
    have hlen : l.length = bs.length := by rw [← hl]; simp
    have hv : ∀ i b', bs[i]? = some b' → w.cell? ⟨b, off + i, none⟩ = some (.int .u8 b'.toNat) := by
      intro i b' hi
      have h4 := h1 i (byteSV b') (by rw [← hl, List.getElem?_map, hi]; rfl)
      have h5 := rep_raw' h4
      have h6 := h3 i (by rw [hlen]; exact (List.getElem?_eq_some_iff.1 hi).1) 0 (.int .u8 b'.toNat) (by rw [h5]; rfl)
      simpa using h6
    rw [hlen]
    have hld := run_loadCells_list (P := P) (w := w) ⟨b, off, none⟩ (bs.map fun b' => Value.int .u8 b'.toNat) (fun j u hu => by
      rw [List.getElem?_map] at hu
      cases hq : bs[j]? with
      | none => simp [hq] at hu
      | some q => simp [hq] at hu; subst hu; rw [addr_add]; exact hv j q hq)
    rw [List.length_map] at hld
    have := run_bytesToString (P := P) w ⟨b, off, none⟩ bs.length c (bs.map fun b' => (b'.toNat : Int)) (by rw [hld]; simp [Function.comp_def])
    rw [this, fold_push]; simp
section
variable {Γ : Ctx} {ops : Array Oper} {l : List (Oper × Nat)} {t : List (Nat × LV)} {h : List (Nat × Ent)} {K : St → Prop} {c d ty : Nat} {ps : String} {af : Array Edge} {x : Operand}
theorem q_cvb {s : ByteArray} {S D e : Nat} (hs : Γ.P.underlying S = some .string) (hD : Γ.P.underlying D = some (.slice e)) (he : Γ.P.underlying e = some (.int .u8)) (hx : St.ev ⟨t, h⟩ x = .sv (.raw (.string s)))
    (hk : RunL Γ ops l ⟨(d, .sv (.sl 1 (s.data.toList.map fun b => .raw (.int .u8 b.toNat)))) :: t, h⟩ K) :
    RunL Γ ops ((⟨some d, .convert S D x, ty, ps, af, none⟩, c + 2) :: l) ⟨t, h⟩ K := by
  refine run_x (ext := True) rfl (by omega) (fun _ => trivial) fun a w ρ I hd => ?_
  have run : (execOp a.eval ⟨some d, .convert S D x, ty, ps, af, none⟩).run Γ.P w = .ok (.value (.slice (some ⟨w.heap.size, 0, none⟩) s.size (grownCap w s.size 0 e))) (Lib.bytesWorld w e s) := by
    simp [execOp, ev_raw I hx, Lib.run_convert_string_bytes w S D e s hs hD he]
  unfold XOk oN
  rw [run]
  have hx' := bytes_ext w e s
  have I' := I.ext hx'
  refine ⟨_, hk, ⟨ρ, ?_⟩, fun _ => hx'⟩
  refine I'.put (d := some d) (by simpa [dstOk] using hd) ?_
  have hlen : (s.data.toList.map fun b => SV.raw (.int .u8 b.toNat)).length = s.size := by simp
  have hnew : ¬ Own Γ h ρ w.heap.size := by
    rintro (hO | ⟨k, e', hk', hb⟩)
    · have := I.out _ hO
      have := I.frm.size
      omega
    · have := (I.new k e' _ hk' hb).2
      omega
  show Rep _ _ _ _
  rcases Nat.eq_zero_or_pos s.size with h0 | h0
  · have hl : (s.data.toList.map fun b => SV.raw (.int .u8 b.toNat)) = [] := List.eq_nil_of_length_eq_zero (by rw [hlen]; exact h0)
    rw [hl, h0]; exact Rep.nil _ _ _
  · rw [← hlen]
    refine Rep.sl 1 _ w.heap.size 0 _ (fun i => .int .u8 (s.data.toList.getD i 0).toNat) hnew (by rw [hlen]; exact h0) ?_ (by decide) ?_ (fun i _ => rfl) ?_
    · rw [hlen]; exact grownCap_ge _ _ _ _
    · intro i q hi
      rw [List.getElem?_map] at hi
      cases hb : s.data.toList[i]? with
      | none => simp [hb] at hi
      | some b =>
        simp only [hb, Option.map_some, Option.some.injEq] at hi
        subst hi
        rw [List.getD_eq_getElem?_getD, hb]; exact Rep.raw _
    · intro i hi j u hu
      rw [hlen] at hi
      have hj : j = 0 := by
        have := (Array.getElem?_eq_some_iff.1 hu).1
        simp [Value.cells] at this; exact this
      subst hj
      simp [Value.cells] at hu
      subst hu
      simpa using Lib.bytesWorld_cell w e s i hi
/-- A row of bytes of ours, as a text. -/
theorem q_cvo {bs : List UInt8} {S D e k T : Nat} (hs : Γ.P.underlying S = some (.slice e)) (he : Γ.P.underlying e = some (.int .u8)) (hD : Γ.P.underlying D = some .string) (hx : St.ev ⟨t, h⟩ x = .own k) (hh : h.lookup k = some (.row 1 T (bs.map byteSV)))
    (hk : RunL Γ ops l ⟨(d, .sv (.raw (.string ⟨bs.toArray⟩))) :: t, h⟩ K) : RunL Γ ops ((⟨some d, .convert S D x, ty, ps, af, none⟩, c + 2) :: l) ⟨t, h⟩ K := by
  refine run_x (ext := True) rfl (by omega) (fun _ => trivial) fun a w ρ I hd => ?_
  have hX := I.ev x
  rw [hx] at hX
  have hX' : a.eval x = ρ k := hX
  have hr := row_view0 I hh
  have run : (execOp a.eval ⟨some d, .convert S D x, ty, ps, af, none⟩).run Γ.P w = .ok (.value (.string ⟨bs.toArray⟩)) w := by
    have h1 := run_rep_string (P := Γ.P) hr
    have h2 : ∃ q n cc, ρ k = .slice q n cc := rep_sl hr
    obtain ⟨q, n, cc, hq⟩ := h2
    rw [hq] at h1
    simp [execOp, hX', hq, run_convert_bytes_string w S D e q n cc hs he hD, h1]
  unfold XOk oN
  rw [run]
  exact ⟨_, hk, ⟨ρ, I.put (d := some d) (by simpa [dstOk] using hd) (Rep.raw _)⟩, fun _ => Ext.refl w⟩
end
end Go.Abs
