/- A map of ours, with whole numbers for keys. No condition. -/
import Derived.Test.YtlokejcoikddgaaAbsSc
namespace Go.Abs
open Go Go.RowKit Go.Eager

theorem findNow_int {kk : IntKind} (q : Int) : ∀ (en : List MapEntry) (es : List (Int × Value)) (i : Nat), en.map (fun e => (e.key, e.val)) = es.map (fun p => (Value.int kk p.1, p.2)) →
    ∃ r, Instr.findNow (.int kk) (.int kk q) en i = some r ∧ r.map (·.2) = es.lookup q
  | [], es, i, h => by
    have : es = [] := by cases es with | nil => rfl | cons a b => simp at h
    subst this
    exact ⟨none, rfl, rfl⟩
  | e :: en, [], i, h => by simp at h
  | e :: en, (x, v) :: es, i, h => by
    simp only [List.map_cons, List.cons.injEq, Prod.mk.injEq] at h
    obtain ⟨⟨h1, h2⟩, h3⟩ := h
    by_cases hq : q = x
    · subst hq
      exact ⟨some (i, e.val), by simp [Instr.findNow, Instr.sameNow, h1], by simp [h2]⟩
    · obtain ⟨r, h4, h5⟩ := findNow_int q en es (i + 1) h3
      refine ⟨r, ?_, ?_⟩
      · have hb : (q == x) = false := by simpa using hq
        simp [Instr.findNow, Instr.sameNow, h1, hb, h4]
      · have hb : (q == x) = false := by simpa using hq
        rw [List.lookup_cons, hb]; exact h5

theorem run_checkKey {P : Program} {t : TypeId} {kk : IntKind} (h : P.underlying t = some (.int kk)) (b : Bool) (q : Int) (w : World) : (Instr.checkKey b 10000 t (.int kk q)).run P w = .ok () w := by
  show (Instr.checkKey b (9999 + 1) t (.int kk q)).run P w = _
  unfold Instr.checkKey
  rw [Sem.run_bind, run_underlying h]
  rfl

def mpOf (P : Program) (t : TypeId) : Option (TypeId × TypeId × IntKind) := match P.underlying t with | some (.map k e) => (inkOf P k).map fun kk => (k, e, kk) | _ => none
theorem mpOf_spec {P : Program} {t k e : TypeId} {kk : IntKind} (h : mpOf P t = some (k, e, kk)) : P.underlying t = some (.map k e) ∧ P.underlying k = some (.int kk) := by
  unfold mpOf at h
  split at h
  · rename_i k' e' hu
    unfold inkOf at h
    split at h
    · rename_i q hq
      simp at h
      obtain ⟨rfl, rfl, rfl⟩ := h
      exact ⟨hu, hq⟩
    · simp at h
  · cases h
theorem run_zero {P : Program} {t : TypeId} {z : Value} (h : zeroOf P t = some z) (w : World) : (zeroValue t).run P w = .ok z w := by
  unfold zeroOf at h
  cases hi : P.info? t with
  | none => simp [hi] at h
  | some i => simp [hi] at h; simp [zeroValue, typeInfo, hi, h]

theorem run_getObj {P : Program} {w : World} {r : Nat} {en : Array MapEntry} {cl : Nat} (h : w.heap[r]? = some (.map en cl)) : (getObj r).run P w = .ok (.map en cl) w := by
  simp [getObj, Sem.run, h]
theorem run_setObj {P : Program} {w : World} {r : Nat} {en : Array MapEntry} {cl : Nat} {o : Obj} (h : w.heap[r]? = some (.map en cl)) : (setObj r o).run P w = .ok () { w with heap := w.heap.setIfInBounds r o } := by
  simp [setObj, Sem.run, h]

theorem run_findKey {P : Program} {w : World} {k : TypeId} {kk : IntKind} (hk : P.underlying k = some (.int kk)) {q : Int} {en : Array MapEntry} {es : List (Int × Value)} (h : en.toList.map (fun e => (e.key, e.val)) = es.map (fun p => (Value.int kk p.1, p.2))) :
    ∃ r, (Instr.findKey k (.int kk q) en.toList).run P w = .ok r w ∧ r.map (·.2) = es.lookup q := by
  obtain ⟨r, h1, h2⟩ := findNow_int (kk := kk) q en.toList es 0 h
  exact ⟨r, by simp [Instr.findKey, run_underlying hk, h1], h2⟩

section
variable {Γ : Ctx} {ops : Array Oper} {l : List (Oper × Nat)} {t : List (Nat × LV)} {h : List (Nat × Ent)} {K : St → Prop} {c d ty : Nat} {ps : String} {af : Array Edge} {x y z : Operand}

theorem q_mmap {S k e : Nat} {kk : IntKind} (_hm : mpOf Γ.P S = some (k, e, kk)) (hf : St.free ⟨t, h⟩ d = true) (hi : Γ.inn d = none) (hk : RunL Γ ops l ⟨(d, .own d) :: t, ins d (.map kk []) h⟩ K) :
    RunL Γ ops ((⟨some d, .makeMap S none, ty, ps, af, none⟩, c + 2) :: l) ⟨t, h⟩ K := by
  refine run_x (ext := True) rfl (by omega) (fun _ => trivial) fun a w ρ I hd => ?_
  have run : (execOp a.eval ⟨some d, .makeMap S none, ty, ps, af, none⟩).run Γ.P w = .ok (.value (.map (some w.heap.size))) (w.alloc (.map #[] 0)) := by
    simp [execOp, Instr.makeMap]
  unfold XOk oN
  rw [run]
  have I' := I.fresh (k := d) (e := .map kk []) (v' := .map (some w.heap.size)) (o := .map #[] 0) hf hi rfl ⟨w.heap.size, #[], 0, upd_at _ _ _, heap_alloc_new w _, rfl⟩
  refine ⟨_, hk, ⟨upd ρ d (.map (some w.heap.size)), ?_⟩, fun _ => alloc_ext w _⟩
  exact I'.put (d := some d) (lv := .own d) (v := .map (some w.heap.size)) (by simpa [dstOk] using hd) (upd_at _ _ _).symm

theorem q_mget {S k e m : Nat} {kk : IntKind} {q : Int} {es : List (Int × Value)} (zv v : Value) (hm : mpOf Γ.P S = some (k, e, kk)) (hz : zeroOf Γ.P e = some zv) (hx : St.ev ⟨t, h⟩ x = .own m) (hh : h.lookup m = some (.map kk es)) (hy : St.ev ⟨t, h⟩ y = .sv (.raw (.int kk q)))
    (hv : (es.lookup q).getD zv = v) (hk : RunL Γ ops l ⟨(d, .sv (.raw v)) :: t, h⟩ K) :
    RunL Γ ops ((⟨some d, .lookup S x y false, ty, ps, af, none⟩, c + 2) :: l) ⟨t, h⟩ K := by
  refine run_x (ext := True) rfl (by omega) (fun _ => trivial) fun a w ρ I hd => ?_
  obtain ⟨hu, hku⟩ := mpOf_spec hm
  obtain ⟨r, en, cl, h1, h2, h3⟩ := I.ent m _ hh
  have hX : a.eval x = .map (some r) := by have := I.ev x; rw [hx] at this; rw [show a.eval x = ρ m from this, h1]
  obtain ⟨res, h4, h5⟩ := run_findKey (P := Γ.P) (w := w) hku (q := q) h3
  have run : (execOp a.eval ⟨some d, .lookup S x y false, ty, ps, af, none⟩).run Γ.P w = .ok (.value v) w := by
    cases res with
    | none =>
      simp at h5
      rw [← h5] at hv
      simp at hv
      simp [execOp, hX, ev_raw I hy, Instr.lookup, run_underlying hu, run_getObj h2, run_checkKey hku, h4, run_zero hz, hv]
    | some p =>
      simp at h5
      rw [← h5] at hv
      simp at hv
      simp [execOp, hX, ev_raw I hy, Instr.lookup, run_underlying hu, run_getObj h2, run_checkKey hku, h4, hv]
  unfold XOk oN
  rw [run]
  exact ⟨_, hk, ⟨ρ, I.put (d := some d) (by simpa [dstOk] using hd) (Rep.raw v)⟩, fun _ => Ext.refl w⟩

theorem q_mput {S k e m : Nat} {kk : IntKind} {q : Int} {es : List (Int × Value)} (v : Value) (hm : mpOf Γ.P S = some (k, e, kk)) (hx : St.ev ⟨t, h⟩ x = .own m) (hh : h.lookup m = some (.map kk es)) (hy : St.ev ⟨t, h⟩ y = .sv (.raw (.int kk q))) (hz : St.ev ⟨t, h⟩ z = .sv (.raw v))
    (hv : es.lookup q = none) (hk : RunL Γ ops l ⟨t, ins m (.map kk (es ++ [(q, v)])) h⟩ K) :
    RunL Γ ops ((⟨none, .mapUpdate S x y z, ty, ps, af, none⟩, 2) :: l) ⟨t, h⟩ K := by
  refine run_x (ext := False) rfl (by omega) (fun h => (h rfl).elim) fun a w ρ I hd => ?_
  obtain ⟨hu, hku⟩ := mpOf_spec hm
  obtain ⟨r, en, cl, h1, h2, h3⟩ := I.ent m _ hh
  have hX : a.eval x = .map (some r) := by have := I.ev x; rw [hx] at this; rw [show a.eval x = ρ m from this, h1]
  obtain ⟨res, h4, h5⟩ := run_findKey (P := Γ.P) (w := w) hku (q := q) h3
  have hres : res = none := by cases res with | none => rfl | some p => rw [hv] at h5; simp at h5
  subst hres
  have hlt : r < w.heap.size := (Array.getElem?_eq_some_iff.1 h2).1
  have run : (execOp a.eval ⟨none, .mapUpdate S x y z, ty, ps, af, none⟩).run Γ.P w = .ok .skip { w with heap := w.heap.setIfInBounds r (.map (en.push { key := .int kk q, val := v, born := cl }) (cl + 1)) } := by
    simp [execOp, hX, ev_raw I hy, ev_raw I hz, Instr.mapUpdate, run_underlying hu, run_getObj h2, run_checkKey hku, h4, run_setObj h2]
  unfold XOk oN
  rw [run]
  have hbk : blk (ρ m) = some r := by rw [h1]; rfl
  refine ⟨_, hk, ⟨ρ, ?_⟩, fun h => h.elim⟩
  have J := I.heap (t' := t) (k := m) (e := .map kk (es ++ [(q, v)])) (v' := ρ m) (w' := { w with heap := w.heap.setIfInBounds r (.map (en.push { key := .int kk q, val := v, born := cl }) (cl + 1)) }) (fun t lv h => .inl h) (.inl rfl)
    ⟨rfl, rfl, rfl, by simp⟩ (fun b _ hne => by
      have hbr : r ≠ b := fun e => hne _ hh (by rw [hbk, e])
      simp [Array.getElem?_setIfInBounds_ne hbr]) (fun b hb => ⟨by simpa using (I.new m _ b hh hb).2, .inr ⟨_, hh, hb⟩⟩) (fun v hv => I.inn m v hv)
    (by rw [upd_self]; exact ⟨r, _, _, h1, by simp [hlt]; exact ⟨rfl, rfl⟩, by simp [h3]⟩)
  rw [upd_self] at J
  exact J
end
end Go.Abs
