/- The engine, part 3: a layer of plain values over the model. No condition. -/
import Derived.Test.YtanilephcohjkaaGreatEg2
import Derived.Shelf.Spec.SlicesInsertGrow
/- A region that draws its order and appends to a row of ours beside loads that do not read that row. No condition. -/
namespace Go.Abs
open Go Go.RowKit Go.Eager
set_option linter.unusedVariables false
set_option linter.unusedSimpArgs false
/-- All but the block of one value is as it was. -/
structure ExtK (v : Value) (w w' : World) : Prop where
  os : w'.os = w.os
  tape : w'.tape = w.tape
  output : w'.output = w.output
  size : w.heap.size ≤ w'.heap.size
  block : ∀ b, b < w.heap.size → blk v ≠ some b → w'.heap[b]? = w.heap[b]?
theorem ExtK.refl (v : Value) (w : World) : ExtK v w w := ⟨rfl, rfl, rfl, Nat.le_refl _, fun _ _ _ => rfl⟩
theorem ExtK.trans {v : Value} (a b c : World) (h : ExtK v a b) (k : ExtK v b c) : ExtK v a c :=
  ⟨k.os.trans h.os, k.tape.trans h.tape, k.output.trans h.output, Nat.le_trans h.size k.size, fun d hd hn => (k.block d (Nat.lt_of_lt_of_le hd h.size) hn).trans (h.block d hd hn)⟩
theorem ExtK.of {v : Value} {w w' : World} (h : Ext w w') : ExtK v w w' := ⟨h.os, h.tape, h.output, h.size, fun b hb _ => h.block b hb⟩
def clsX : Op → Nat
  | .call { callee := .builtin .append, .. } => 3
  | o => clsOp o
def wpX (P : Program) (ops : Array Oper) (v0 : Value) (Q : Act → World → Prop) : List (Oper × Nat) → Act → World → Prop
  | [], a, w => Q a w
  | (o, c) :: l, a, w =>
    if c ≤ 1 then ∃ v, EagerX.Stands (ExtK v0) P ops c o a w v ∧ wpX P ops v0 Q l (a.put o.dst v) w
    else if Region.wanted o (yielded ops a.tmps) then oN P o a w (fun v w' => (c ≠ 2 → ExtK v0 w w') ∧ wpX P ops v0 Q l (a.put o.dst v) w') else wpX P ops v0 Q l (a.put o.dst undef) w
/-- The frame's context, where one name's value is said. -/
@[reducible] def Ctx.at (Γ : Ctx) (ki : Nat) (v0 : Value) : Ctx := { Γ with inn := fun k => if k = ki then some v0 else Γ.inn k }
theorem Iv.at {Γ : Ctx} {σ : St} {ρ : Nat → Value} {a : Act} {w : World} (I : Iv Γ σ ρ a w) (ki : Nat) : Iv (Γ.at ki (ρ ki)) σ ρ a w :=
  ⟨I.dfr, I.size, ⟨I.frm.os, I.frm.tape, I.frm.output, I.frm.size, I.frm.block⟩, I.tmp, I.ent, I.new, I.sep, I.out, fun k v h => by
    simp only [Ctx.at] at h
    split at h
    · rename_i hk; subst hk; cases h; rfl
    · exact I.inn k v h⟩
def RunX (Γ : Ctx) (ops : Array Oper) (v0 : Value) (l : List (Oper × Nat)) (σ : St) (K : St → Prop) : Prop :=
  l.all (fun p => dstOk Γ p.1) = true → ∀ a w, Inv Γ σ a w → wpX Γ.P ops v0 (fun a' w' => ∃ σ', K σ' ∧ Inv Γ σ' a' w') l a w
section
variable {Γ : Ctx} {ops : Array Oper} {l : List (Oper × Nat)} {σ : St} {t : List (Nat × LV)} {h : List (Nat × Ent)} {K : St → Prop} {v0 : Value} {c d ty : Nat} {ps : String} {af : Array Edge} {x y : Operand}
/-- What a slot's word alone says of its value. -/
def LV.det : LV → Bool
  | .own _ => true
  | .sv (.raw _) => true
  | .sv (.agg l) => l.all isRaw
  | _ => false
end
def XOkK (Γ : Ctx) (a : Act) (w : World) (o : Oper) (v0 : Value) (K : St → Prop) : Prop := oN Γ.P o a w fun v w' => (∃ σ', K σ' ∧ Inv Γ σ' (a.put o.dst v) w') ∧ ExtK v0 w w'
section
variable {Γ : Ctx} {σ : St} {ρ : Nat → Value} {a : Act} {w : World}
end
section
variable {Γ : Ctx} {ops : Array Oper} {l : List (Oper × Nat)} {t : List (Nat × LV)} {h : List (Nat × Ent)} {K : St → Prop} {v0 : Value} {c d ty : Nat} {ps : String} {af : Array Edge} {x y : Operand}
end
section
variable {Γ : Ctx} {ops : Array Oper} {l : List (Oper × Nat)} {t : List (Nat × LV)} {h : List (Nat × Ent)} {K : St → Prop} {c d ty : Nat} {ps : String} {af : Array Edge} {x y : Operand}
/-- A struct put together of plain values; what is not named is zero. -/
theorem q_bldr {S : Nat} {parts : Array (Nat × Operand)} (us : List (Nat × Value)) (vs : List Value) (hp : parts.toList.map (fun p => (p.1, St.ev ⟨t, h⟩ p.2)) = us.map fun p => (p.1, LV.sv (.raw p.2))) (hb : Γ.P.built S us = some vs.toArray) (h1 : vs.all (·.oneCell') = true)
    (hk : RunL Γ ops l ⟨(d, .sv (.agg (vs.map .raw))) :: t, h⟩ K) : RunL Γ ops ((⟨some d, .build S parts, ty, ps, af, none⟩, c + 2) :: l) ⟨t, h⟩ K := by
  refine run_x (ext := True) rfl (by omega) (fun _ => trivial) fun a w ρ I hd => ?_
  have hparts : (parts.map fun p => (p.1, a.eval p.2)).toList = us := by
    rw [Array.toList_map]
    have key : ∀ (ps : List (Nat × Operand)) (us : List (Nat × Value)), ps.map (fun p => (p.1, St.ev ⟨t, h⟩ p.2)) = us.map (fun p => (p.1, LV.sv (.raw p.2))) → ps.map (fun p => (p.1, a.eval p.2)) = us := by
      intro ps
      induction ps with
      | nil => intro us h; cases us with | nil => rfl | cons => simp at h
      | cons p ps ih =>
        intro us h
        cases us with
        | nil => simp at h
        | cons u us =>
          simp only [List.map_cons, List.cons.injEq, Prod.mk.injEq] at h ⊢
          exact ⟨Prod.ext h.1.1 (ev_raw I h.1.2), ih us h.2⟩
    exact key _ _ hp
  have run : (execOp a.eval ⟨some d, .build S parts, ty, ps, af, none⟩).run Γ.P w = .ok (.value (.agg vs.toArray)) w := by
    rw [← hparts] at hb
    have := run_build (P := Γ.P) w S (parts.map fun p => (p.1, a.eval p.2)) _ hb
    simp [execOp, this]
  unfold XOk oN
  rw [run]
  refine ⟨_, hk, ⟨ρ, I.put (d := some d) (by simpa [dstOk] using hd) (Rep.agg _ _ (by simp) (fun j u hu => ?_) (fun j s u hs hu => ?_))⟩, fun _ => Ext.refl w⟩
  · exact List.all_eq_true.1 h1 u (List.mem_of_getElem? (by simpa using hu))
  · rw [List.getElem?_map] at hs
    have hu' : vs[j]? = some u := by simpa using hu
    rw [hu'] at hs
    simp at hs; subst hs; exact Rep.raw u
end
end Go.Abs

/- A box of ours that is written no more; an append of nothing to a row of ours. No condition. -/
namespace Go.Abs
open Go Go.RowKit Go.Eager
set_option linter.unusedVariables false
set_option linter.unusedSimpArgs false
def fbT (k : Nat) (s : SV) (t : List (Nat × LV)) : List (Nat × LV) := t.map fun p => (p.1, match p.2 with | .ptr k' j => if k' = k then (if j = 0 then .sv (.ptr s) else .dead) else .ptr k' j | lv => lv)
theorem fbT_lookup {k t : Nat} {s : SV} {lv : LV} : ∀ {ts : List (Nat × LV)}, (fbT k s ts).lookup t = some lv → ts.lookup t = some lv ∨ (ts.lookup t = some (.ptr k 0) ∧ lv = .sv (.ptr s)) ∨ lv = .dead
  | [], h => by simp [fbT] at h
  | (t', lv') :: ts, h => by
    simp only [fbT, List.map_cons, List.lookup_cons] at h ⊢
    by_cases ht : t = t'
    · subst ht
      simp only [BEq.rfl, Option.some.injEq] at h ⊢
      subst h
      split
      · rename_i k' j
        by_cases hk : k' = k
        · subst hk
          by_cases hj : j = 0
          · subst hj; simp
          · simp [hj]
        · simp [hk]
      · exact .inl rfl
    · have : (t == t') = false := by simpa using ht
      simp only [this] at h ⊢
      exact fbT_lookup h
section
variable {Γ : Ctx} {σ : St} {ρ : Nat → Value} {a : Act} {w : World}
theorem Iv.freezeB (I : Iv Γ σ ρ a w) {k : Nat} {l : List SV} (hk : σ.h.lookup k = some (.box (l.map .sv))) (hl : l ≠ []) : Iv Γ ⟨fbT k (.agg l) σ.t, dropH k σ.h⟩ ρ a w := by
  have J : Iv Γ ⟨σ.t, dropH k σ.h⟩ ρ a w := I.sub (fun _ _ h => h) fun k e h => (dropH_lookup h).1
  have hv : ∀ b, ρ k = .pointer (some ⟨b, 0, none⟩) → Rep w (Own Γ (dropH k σ.h) ρ) (.ptr (.agg l)) (.pointer (some ⟨b, 0, none⟩)) := by
    intro b0 hb0
    obtain ⟨b, T, cur, hr, hcur, hsz, hc⟩ := I.ent k _ hk
    rw [hb0] at hr
    simp only [Value.pointer.injEq, Option.some.injEq, Addr.mk.injEq, and_true] at hr
    subst hr
    have hbk : blk (ρ k) = some b0 := by rw [hb0]; rfl
    have hlen : cur.size = l.length := by rw [hsz]; simp
    refine Rep.ptr (.agg l) b0 0 (.agg cur) ?_ (Rep.agg l cur hlen (fun i u hu => ?_) (fun i s u hs hu => ?_)) ?_ ?_
    · rintro (hO | ⟨k1, e1, hk1, hb1⟩)
      · have h1 := I.out b0 hO
        rcases (I.new k _ b0 hk hbk).1 with h | h
        · omega
        · exact h1.2 h
      · obtain ⟨h1, h2⟩ := dropH_lookup hk1
        exact h2 (I.sep k1 k e1 _ b0 h1 hk hb1 hbk)
    · have hlt : i < (l.map LV.sv).length := by rw [← hsz]; exact (Array.getElem?_eq_some_iff.1 hu).1
      exact (hc i _ u (List.getElem?_eq_getElem hlt) hu).2
    · have h1 : (l.map LV.sv)[i]? = some (.sv s) := by rw [List.getElem?_map, hs]; rfl
      exact Rep.kp (hc i _ u h1 hu).1 (Own.sub fun k e h => (dropH_lookup h).1)
    · simp only [Value.cells]
      have : 0 < l.length := List.length_pos_iff.2 hl
      omega
    · intro j u hu
      rw [cell_of_row w b0 (0 + j) cur T (0, 0) hcur, Nat.zero_add]; exact hu
  refine ⟨J.dfr, J.size, J.frm, ?_, J.ent, J.new, J.sep, J.out, J.inn⟩
  intro t lv h
  rcases fbT_lookup h with h' | ⟨h', rfl⟩ | rfl
  · exact J.tmp t lv h'
  · obtain ⟨b, e1, e2⟩ := I.tmp t _ h'
    show Rep w _ _ _
    rw [e2]; exact hv b e1
  · exact trivial
end
theorem le_fb {Γ : Ctx} {t : List (Nat × LV)} {h : List (Nat × Ent)} {c : List LV} (k : Nat) (l : List SV) (hk : h.lookup k = some (.box c)) (hc : c = l.map .sv) (hl : l ≠ []) : Le Γ ⟨fbT k (.agg l) t, dropH k h⟩ ⟨t, h⟩ := by
  subst hc; exact fun _ _ ⟨_, I⟩ => ⟨_, I.freezeB hk hl⟩
section
variable {Γ : Ctx} {ops : Array Oper} {l : List (Oper × Nat)} {t : List (Nat × LV)} {h : List (Nat × Ent)} {K : St → Prop} {c d ty : Nat} {ps : String} {af : Array Edge} {x y : Operand}
end
end Go.Abs

/- A struct put together of its first parts; the rest is zero. No condition. -/
namespace Go.Abs
open Go Go.RowKit Go.Eager
set_option linter.unusedVariables false
/-- Values that read so, wherever. -/
def ZL : List SV → List Value → Prop
  | [], [] => True
  | s :: ts, v :: zs => ((∀ w O, Rep w O s v) ∧ v.oneCell' = true) ∧ ZL ts zs
  | _, _ => False
theorem ZL.len : ∀ {ts : List SV} {zs : List Value}, ZL ts zs → ts.length = zs.length
  | [], [], _ => rfl
  | _ :: _, _ :: _, h => by simp [ZL.len h.2]
  | [], _ :: _, h => h.elim
  | _ :: _, [], h => h.elim
theorem ZL.at : ∀ {ts : List SV} {zs : List Value}, ZL ts zs → ∀ (i : Nat) (s : SV) (v : Value), ts[i]? = some s → zs[i]? = some v → (∀ w O, Rep w O s v) ∧ v.oneCell' = true
  | [], [], _, i, s, v, h, _ => by simp at h
  | s :: ts, v :: zs, h, 0, s', v', h1, h2 => by cases h1; cases h2; exact h.1
  | s :: ts, v :: zs, h, i + 1, s', v', h1, h2 => ZL.at h.2 i s' v' (by simpa using h1) (by simpa using h2)
  | [], _ :: _, h, _, _, _, _, _ => h.elim
  | _ :: _, [], h, _, _, _, _, _ => h.elim
theorem nil_sl (n : Nat) : (∀ w O, Rep w O (.sl n []) (.slice none 0 0)) ∧ (Value.slice none 0 0).oneCell' = true := ⟨fun _ _ => .nil n none 0, rfl⟩
theorem nil_tr (n : Nat) : (∀ w O, Rep w O (.tr (fun _ => False) (.sl n []) (.slice none 0 0)) (.slice none 0 0)) ∧ (Value.slice none 0 0).oneCell' = true := ⟨fun _ _ => .tr _ _ _ (.nil _ _ _ _) fun b hb => hb.elim, rfl⟩
theorem raw_z (k : IntKind) (n : Int) : (∀ w O, Rep w O (.raw (.int k n)) (.int k n)) ∧ (Value.int k n).oneCell' = true := ⟨fun _ _ => .raw _, rfl⟩
def BLz (P : Program) (S : Nat) (ss : List SV) (zs : List Value) : Prop := ∀ vs : List Value, ShL ss vs → P.built S (vs.zipIdx.map fun p => (p.2, p.1)) = some (vs ++ zs).toArray
section
variable {Γ : Ctx} {ops : Array Oper} {l : List (Oper × Nat)} {t : List (Nat × LV)} {h : List (Nat × Ent)} {K : St → Prop} {c d ty : Nat} {ps : String} {af : Array Edge} {x y : Operand}
theorem q_bldz {S : Nat} {parts : Array (Nat × Operand)} (ss ts : List SV) {zs : List Value} (hb : BLz Γ.P S ss zs) (hz : ZL ts zs) (hi : parts.toList.map (·.1) = List.range ss.length) (hx : parts.toList.map (fun p => St.ev ⟨t, h⟩ p.2) = ss.map LV.sv) (ha : ss.all shpOk = true)
    (hk : RunL Γ ops l ⟨(d, .sv (.agg (ss ++ ts))) :: t, h⟩ K) : RunL Γ ops ((⟨some d, .build S parts, ty, ps, af, none⟩, c + 2) :: l) ⟨t, h⟩ K := by
  refine run_x (ext := True) rfl (by omega) (fun _ => trivial) fun a w ρ I hd => ?_
  have hlen : parts.toList.length = ss.length := by have := congrArg List.length hx; simpa using this
  let vs := parts.toList.map fun p => a.eval p.2
  have hvl : vs.length = ss.length := by simp [vs]; simpa using hlen
  have hvs : ∀ (i : Nat) (s : SV) (v : Value), ss[i]? = some s → vs[i]? = some v → Rep w (Own Γ h ρ) s v := by
    intro i s v hs hv
    have h2 : (parts.toList.map fun p => St.ev ⟨t, h⟩ p.2)[i]? = some (.sv s) := by rw [hx, List.getElem?_map, hs]; rfl
    rw [List.getElem?_map] at h2
    simp only [vs, List.getElem?_map] at hv
    cases hp : parts.toList[i]? with
    | none => simp [hp] at h2
    | some p =>
      simp only [hp, Option.map_some, Option.some.injEq] at h2 hv
      subst hv
      have := I.ev p.2
      rw [h2] at this
      exact this
  have hsh := shL_of (vs := vs) hvl.symm hvs ha
  have hparts : (parts.map fun p => (p.1, a.eval p.2)).toList = vs.zipIdx.map fun p => (p.2, p.1) := by
    rw [Array.toList_map]
    apply List.ext_getElem?
    intro i
    simp only [vs, List.getElem?_map, List.getElem?_zipIdx]
    cases hp : parts.toList[i]? with
    | none => simp
    | some p =>
      have h3 : (parts.toList.map (·.1))[i]? = some p.1 := by rw [List.getElem?_map, hp]; rfl
      rw [hi] at h3
      obtain ⟨hlt, he⟩ := List.getElem?_eq_some_iff.1 h3
      simp only [List.getElem_range] at he
      simp [← he]
  have run : (execOp a.eval ⟨some d, .build S parts, ty, ps, af, none⟩).run Γ.P w = .ok (.value (.agg (vs ++ zs).toArray)) w := by
    have h4 := hb vs hsh
    rw [← hparts] at h4
    have := run_build (P := Γ.P) w S (parts.map fun p => (p.1, a.eval p.2)) _ h4
    simp [execOp, this]
  have hzl := hz.len
  have key : ∀ (j : Nat) (s : SV) (u : Value), (ss ++ ts)[j]? = some s → (vs ++ zs)[j]? = some u → Rep w (Own Γ h ρ) s u := by
    intro j s u hs hu
    rcases Nat.lt_or_ge j ss.length with hj | hj
    · rw [List.getElem?_append_left hj] at hs
      rw [List.getElem?_append_left (by omega)] at hu
      exact hvs j s u hs hu
    · rw [List.getElem?_append_right hj] at hs
      rw [List.getElem?_append_right (by omega), hvl] at hu
      exact (hz.at _ s u hs hu).1 w _
  unfold XOk oN
  rw [run]
  refine ⟨_, hk, ⟨ρ, I.put (d := some d) (by simpa [dstOk] using hd) (Rep.agg _ _ (by simp [hvl, hzl]) (fun j u hu => ?_) (fun j s u hs hu => key j s u hs (by simpa using hu)))⟩, fun _ => Ext.refl w⟩
  have hu' : (vs ++ zs)[j]? = some u := by simpa using hu
  rcases Nat.lt_or_ge j vs.length with hj | hj
  · rw [List.getElem?_append_left hj] at hu'
    have hs : ss[j]? = some (ss[j]'(by omega)) := List.getElem?_eq_getElem (by omega)
    have hr := hvs j _ u hs hu'
    exact hr.oneCell (shL_one hr (List.all_eq_true.1 ha _ (List.mem_of_getElem? hs)))
  · rw [List.getElem?_append_right hj] at hu'
    have hlt := (List.getElem?_eq_some_iff.1 hu').1
    have hs : ts[j - vs.length]? = some (ts[j - vs.length]'(by omega)) := List.getElem?_eq_getElem (by omega)
    exact (hz.at _ _ u hs hu').2
end
end Go.Abs

/- Marks in a struct of one row. No condition. -/
namespace Go.Abs
open Go Go.RowKit Go.Eager
set_option linter.unusedVariables false
theorem tree_raw {w : World} {Z : Nat → Prop} {u v : Value} (h : Tree w Z (.raw u) v) : v = u := by cases h; rfl
theorem mid_get {α : Type} {pre post : List α} {x : α} : (pre ++ x :: post)[pre.length]? = some x := by simp
theorem raws_of {w : World} {O : Nat → Prop} {Z : Nat → Prop} {s : SV} {v : Value} {pre post : List Value} {vs : Array Value} (hn : vs.size = (pre.map SV.raw ++ SV.tr Z s v :: post.map SV.raw).length)
    (h : ∀ (i : Nat) (r : SV) (u : Value), (pre.map SV.raw ++ SV.tr Z s v :: post.map SV.raw)[i]? = some r → vs[i]? = some u → Rep w O r u) : vs = (pre ++ v :: post).toArray := by
  apply Array.ext_getElem?
  intro i
  simp only [List.getElem?_toArray]
  have hl : (pre ++ v :: post).length = vs.size := by rw [hn]; simp
  cases hq : (pre ++ v :: post)[i]? with
  | none => rw [Array.getElem?_eq_none (by have := List.getElem?_eq_none_iff.1 hq; omega)]
  | some u =>
    have hlt := (List.getElem?_eq_some_iff.1 hq).1
    obtain ⟨u', hu'⟩ : ∃ u', vs[i]? = some u' := ⟨_, Array.getElem?_eq_getElem (by omega)⟩
    rw [hu']
    congr 1
    rcases Nat.lt_trichotomy i pre.length with h1 | h1 | h1
    · rw [List.getElem?_append_left h1] at hq
      exact rep_raw' (h i (.raw u) u' (by rw [List.getElem?_append_left (by simpa using h1), List.getElem?_map, hq]; rfl) hu')
    · subst h1
      rw [mid_get] at hq
      cases hq
      have := h pre.length (.tr Z s v) u' (by simp) hu'
      cases this
      rfl
    · obtain ⟨j, rfl⟩ : ∃ j, i = pre.length + 1 + j := ⟨i - (pre.length + 1), by omega⟩
      rw [List.getElem?_append_right (by omega), show pre.length + 1 + j - pre.length = j + 1 by omega, List.getElem?_cons_succ] at hq
      exact rep_raw' (h _ (.raw u) u' (by rw [List.getElem?_append_right (by simp; omega), List.length_map, show pre.length + 1 + j - pre.length = j + 1 by omega, List.getElem?_cons_succ, List.getElem?_map, hq]; rfl) hu')
def MkCs (Z : Nat → Prop) (s s' : SV) (v : Value) : List LV → List LV → Prop
  | [], [] => True
  | x :: l, x' :: l' => MkL Z s s' v x x' ∧ MkCs Z s s' v l l'
  | _, _ => False
theorem MkCs.get {Z : Nat → Prop} {s s' : SV} {v : Value} : ∀ {l l' : List LV}, MkCs Z s s' v l l' → l'.length = l.length ∧ ∀ (i : Nat) (x x' : LV), l[i]? = some x → l'[i]? = some x' → MkL Z s s' v x x'
  | [], [], _ => ⟨rfl, fun i x x' h _ => by simp at h⟩
  | x :: l, x' :: l', h => ⟨by simp [(MkCs.get h.2).1], fun i y y' hy hy' => by
    cases i with
    | zero => cases hy; cases hy'; exact h.1
    | succ i => exact (MkCs.get h.2).2 i y y' (by simpa using hy) (by simpa using hy')⟩
  | [], _ :: _, h => h.elim
  | _ :: _, [], h => h.elim
theorem MkCs.box {Z : Nat → Prop} {s s' : SV} {v : Value} {l l' : List LV} (h : MkCs Z s s' v l l') : MkE Z s s' v (.box l) (.box l') := .box h.get.1 h.get.2
section
variable {Γ : Ctx} {ops : Array Oper} {l : List (Oper × Nat)} {t : List (Nat × LV)} {h : List (Nat × Ent)} {K : St → Prop} {c d ty : Nat} {ps : String} {af : Array Edge} {x y : Operand}
theorem q_mark1 {f : Nat} {ts : Array Nat} {Z : Nat → Prop} {s : SV} {v : Value} (pre post : List Value) {k : Int} {R : Int → SV → Prop} (hc : MarkC Γ.P f (.agg (pre.map .raw ++ s :: post.map .raw)) k R) (hcl : Calb Γ.P f)
    (hx : St.ev ⟨t, h⟩ x = .sv (.agg (pre.map .raw ++ .tr Z s v :: post.map .raw))) (hy : St.ev ⟨t, h⟩ y = .sv (.raw (.int .i64 k))) (hM : ∀ b, Z b → Γ.w0.heap.size ≤ b ∨ Γ.M b)
    (hR : ∀ k' s'', R k' s'' → ∃ (pre' : List Value) (s' : SV) (post' : List Value), s'' = .agg (pre'.map .raw ++ s' :: post'.map .raw) ∧ pre'.length = pre.length ∧ post'.length = post.length)
    (t' : SV → List (Nat × LV)) (h' : SV → List (Nat × Ent)) (ht : ∀ s', MkT Z s s' v t (t' s')) (hh : ∀ s', MkH Z s s' v h (h' s'))
    (hk : ∀ k' s', R k' (.agg (pre.map .raw ++ s' :: post.map .raw)) → RunL Γ ops l ⟨(d, .sv (.raw (.int .i64 k'))) :: t' s', h' s'⟩ K) :
    RunL Γ ops ((⟨some d, .call { callee := .value (.func f), args := #[x, y], argTypes := ts }, ty, ps, af, none⟩, 2) :: l) ⟨t, h⟩ K := by
  obtain ⟨fn, hf', hname, hb⟩ := hcl
  refine run_x (ext := False) rfl (by omega) (fun h => (h rfl).elim) fun a w ρ I hd => ?_
  have hX := I.ev x
  rw [hx] at hX
  have hY : a.eval y = .int .i64 k := ev_raw I hy
  have hrun : (execOp a.eval ⟨some d, .call { callee := .value (.func f), args := #[x, y], argTypes := ts }, ty, ps, af, none⟩).run Γ.P w = .ok (.enter f #[a.eval x, .int .i64 k]) w := by
    have hF : a.eval (.func f) = .func (.func f) #[] #[] := rfl
    simp [execOp, resolve, hF, Deferred.ofValue, invoke, run_callFunc hf' hname hb, hY]
  unfold XOk oN
  rw [hrun]
  generalize a.eval x = u at hX hrun
  cases hX with
  | agg _ vs hn h1 h2 =>
    have hvs := raws_of hn h2
    subst hvs
    have hmid : (pre ++ v :: post).toArray[pre.length]? = some v := by simp
    have hr := h2 pre.length (.tr Z s v) v (by simp) hmid
    cases hr with
    | tr _ _ _ hT hZ =>
      have hT0 : Tree w Z (.agg (pre.map .raw ++ s :: post.map .raw)) (.agg (pre ++ v :: post).toArray) := by
        refine .agg Z _ _ (fun i d => i = pre.length ∧ Z d) (by simp) h1 (fun i r u hr hu => ?_) (fun i d h => h.2) (fun i j d hi hj => by rw [hi.1, hj.1])
        simp only [List.getElem?_toArray] at hu
        rcases Nat.lt_trichotomy i pre.length with h1 | h1 | h1
        · rw [List.getElem?_append_left h1] at hu
          rw [List.getElem?_append_left (by simpa using h1), List.getElem?_map, hu] at hr
          cases hr; exact .raw _ _
        · subst h1
          rw [mid_get] at hu
          cases hu
          have := mid_get (pre := pre.map SV.raw) (post := post.map SV.raw) (x := s)
          rw [List.length_map] at this
          rw [this] at hr
          cases hr
          exact hT.mono fun b hb => ⟨rfl, hb⟩
        · obtain ⟨j, rfl⟩ : ∃ j, i = pre.length + 1 + j := ⟨i - (pre.length + 1), by omega⟩
          rw [List.getElem?_append_right (by omega), show pre.length + 1 + j - pre.length = j + 1 by omega, List.getElem?_cons_succ] at hu
          rw [List.getElem?_append_right (by simp; omega), List.length_map, show pre.length + 1 + j - pre.length = j + 1 by omega, List.getElem?_cons_succ, List.getElem?_map, hu] at hr
          cases hr; exact .raw _ _
      refine (hc w Z _ hT0 fun b hb => (hZ b hb).1).mono ?_
      rintro e w' ⟨k', s'', he, hR', hC, hT'⟩
      obtain ⟨pre', s', post', rfl, e1, e2⟩ := hR k' s'' hR'
      generalize hW : (pre ++ v :: post).toArray = W at hT'
      cases hT' with
      | agg _ _ _ z hn' h1' h2' hzn' hap' =>
        subst hW
        have ep : pre' = pre := by
          apply List.ext_getElem?
          intro i
          rcases Nat.lt_or_ge i pre.length with hi | hi
          · have a1 : pre'[i]? = some (pre'[i]'(by omega)) := List.getElem?_eq_getElem (by omega)
            have a2 : pre[i]? = some pre[i] := List.getElem?_eq_getElem hi
            have a3 := h2' i (.raw (pre'[i]'(by omega))) pre[i] (by rw [List.getElem?_append_left (by simp; omega), List.getElem?_map, a1]; rfl) (by simp only [List.getElem?_toArray]; rw [List.getElem?_append_left hi, a2])
            rw [a1, a2, tree_raw a3]
          · rw [List.getElem?_eq_none (by omega), List.getElem?_eq_none hi]
        subst ep
        have eq_ : post' = post := by
          apply List.ext_getElem?
          intro j
          rcases Nat.lt_or_ge j post.length with hi | hi
          · have a1 : post'[j]? = some (post'[j]'(by omega)) := List.getElem?_eq_getElem (by omega)
            have a2 : post[j]? = some post[j] := List.getElem?_eq_getElem hi
            have a3 := h2' (pre'.length + 1 + j) (.raw (post'[j]'(by omega))) post[j]
              (by rw [List.getElem?_append_right (by simp; omega), List.length_map, show pre'.length + 1 + j - pre'.length = j + 1 by omega, List.getElem?_cons_succ, List.getElem?_map, a1]; rfl)
              (by simp only [List.getElem?_toArray]; rw [List.getElem?_append_right (by omega), show pre'.length + 1 + j - pre'.length = j + 1 by omega, List.getElem?_cons_succ, a2])
            rw [a1, a2, tree_raw a3]
          · rw [List.getElem?_eq_none (by omega), List.getElem?_eq_none hi]
        subst eq_
        have hTs : Tree w' Z s' v := (h2' pre'.length s' v (by simp) hmid).mono fun b hb => hzn' _ b hb
        exact ⟨_, he, _, hk k' s' hR', ⟨ρ, (I.mark hC hTs hZ hM (ht s') (hh s')).put (d := some d) (by simpa [dstOk] using hd) (Rep.raw _)⟩, fun h => h.elim⟩
end
end Go.Abs

/- A copy within a row of ours, elements of some cells each. No condition. -/
namespace Go.Abs
open Go Go.RowKit Go.Eager
set_option linter.unusedVariables false
theorem run_copy_rowN {P : Program} (w : World) (dT sT ty elem : TypeId) (g o dLen dCap n : Nat) (a : Addr) (sLen sCap : Nat) (cur : Array Value) (t : TypeId) (cs : List Value)
    (hu : P.underlying dT = some (.slice elem)) (hs : (P.info? elem).map (·.size) = some n)
    (hg : w.heap[g]? = some (.cells cur t (0, 0))) (hn : cs.length = Nat.min sLen dLen * n)
    (hsrc : ∀ j v, cs[j]? = some v → w.cell? (a.add j) = some v) (hfit : o + cs.length ≤ cur.size) (h1 : ∀ v ∈ cs, v.oneCell' = true) :
    (Builtin.copy_ #[dT, sT] ty #[.slice (some ⟨g, o, none⟩) dLen dCap, .slice (some a) sLen sCap]).run P w =
      .ok (goInt (Nat.min sLen dLen)) (w.setRow g (cur.toList.take o ++ cs ++ cur.toList.drop (o + cs.length)).toArray) := by
  have hl := run_loadCells_list (P := P) w a cs hsrc
  have hst := run_storeCells_at P g o t cs 0 cur w hg (by simpa using hfit) h1
  cases hq : P.info? elem with
  | none => simp [hq] at hs
  | some i =>
    have hi : i.size = n := by simpa [hq] using hs
    simp [Builtin.copy_, run_underlying hu, Builtin.lenOf, Builtin.firstCells, sizeOf, typeInfo, hq, hi, ← hn, hl, hst]
/-- The cells of a row's elements are of one cell each. -/
theorem row_one {w : World} {O : Nat → Prop} {n : Nat} {xs : List Value} {l : List SV} {vals : Nat → Value} (hz : 0 < n) (hl : xs.length = l.length * n)
    (hrep : ∀ (i : Nat) (s : SV), l[i]? = some s → Rep w O s (vals i) ∧ (vals i).cells.size = n ∧ ∀ (j : Nat) (u : Value), (vals i).cells[j]? = some u → xs[i * n + j]? = some u)
    (h1 : ∀ s ∈ l, (∃ c, s = .agg c) ∨ s.one = true) : ∀ u ∈ xs, u.oneCell' = true := by
  intro u hu'
  obtain ⟨m, hm⟩ := List.mem_iff_getElem?.1 hu'
  have hmlt : m < l.length * n := by have := (List.getElem?_eq_some_iff.1 hm).1; omega
  have g1 : m / n < l.length := Nat.div_lt_of_lt_mul (by rw [Nat.mul_comm]; exact hmlt)
  have hsr := List.getElem?_eq_getElem g1
  obtain ⟨q1, q2, q3⟩ := hrep _ _ hsr
  obtain ⟨k1', k2'⟩ := sv_cells q1 (h1 _ (List.getElem_mem g1))
  have hmn : m % n < n := Nat.mod_lt _ hz
  have hlt : m % n < (vals (m / n)).cells.size := by omega
  have h4 := Array.getElem?_eq_getElem hlt
  have h5 := q3 _ _ h4
  have h6 : m / n * n + m % n = m := by rw [Nat.mul_comm, Nat.div_add_mod]
  rw [h6, hm] at h5
  have hlt' : m % n < (l[m / n]).cells.length := by omega
  have h7 := (k2' (m % n) _ _ (List.getElem?_eq_getElem hlt') h4).2
  rw [Option.some.inj h5]; exact h7
/-- Cells of a copied row. -/
theorem cpy_cells {xs : List Value} {n m i j r q : Nat} (hz : 0 < n) (hl : xs.length = m * n) (hi : i ≤ m) (hj : j ≤ m) (hq : q < n) (K : Nat) (hK : K = Nat.min (m - j) (m - i)) :
    (cpy xs (i * n) (j * n))[r * n + q]? = if i ≤ r ∧ r < i + K then xs[(j + (r - i)) * n + q]? else xs[r * n + q]? := by
  have hin : i * n ≤ m * n := Nat.mul_le_mul_right n hi
  have hlen : ((xs.drop (j * n)).take (xs.length - i * n)).length = K * n := by
    rw [List.length_take, List.length_drop, hl, ← Nat.sub_mul, ← Nat.sub_mul, hK]
    rcases Nat.le_total (m - j) (m - i) with h | h
    · rw [show Nat.min (m - j) (m - i) = m - j from Nat.min_eq_left h]
      exact Nat.min_eq_right (Nat.mul_le_mul_right n h)
    · rw [show Nat.min (m - j) (m - i) = m - i from Nat.min_eq_right h]
      exact Nat.min_eq_left (Nat.mul_le_mul_right n h)
  rw [cpy_get xs (i * n) (j * n) (by omega), hlen, ← Nat.add_mul]
  by_cases h1 : i ≤ r
  · have a1 : i * n ≤ r * n := Nat.mul_le_mul_right n h1
    by_cases h2 : r < i + K
    · have a2 : (r + 1) * n ≤ (i + K) * n := Nat.mul_le_mul_right n h2
      rw [Nat.add_mul, Nat.one_mul] at a2
      rw [if_pos ⟨by omega, by omega⟩, if_pos ⟨h1, h2⟩]
      congr 1
      rw [Nat.add_mul, Nat.sub_mul]
      omega
    · have a2 : (i + K) * n ≤ r * n := Nat.mul_le_mul_right n (by omega)
      rw [if_neg (by omega), if_neg (by omega)]
  · have a1 : (r + 1) * n ≤ i * n := Nat.mul_le_mul_right n (by omega)
    rw [Nat.add_mul, Nat.one_mul] at a1
    rw [if_neg (by omega), if_neg (by omega)]
section
variable {Γ : Ctx} {σ : St} {ρ : Nat → Value} {a : Act} {w : World}
theorem ok_copyn (I : Iv Γ σ ρ a w) {o : Oper} {x y : Operand} {t t' k n T e i j : Nat} {l : List SV} {K : St → Prop} (ho : o.op = .call { callee := .builtin .copy, args := #[x, y], argTypes := #[t, t'] }) (hdn : dstOk Γ o = true) (he : elOf Γ.P t = some (e, n))
    (hx : σ.ev x = .osub k n i) (hy : σ.ev y = .osub k n j) (hk : σ.h.lookup k = some (.row n T l)) (hi : i ≤ l.length) (hj : j ≤ l.length) (h1 : ∀ s ∈ l, (∃ c, s = .agg c) ∨ s.one = true)
    (hK : K ((⟨σ.t, ins k (.row n T (cpy l i j)) σ.h⟩ : St).put o.dst .dead)) : XOk Γ a w o False K := by
  obtain ⟨hu, hs⟩ := elOf_spec he
  have hX := I.ev x
  have hY := I.ev y
  rw [hx] at hX
  rw [hy] at hY
  obtain ⟨g, m, c, hr, hxv⟩ := hX
  obtain ⟨g', m', c', hr', hyv⟩ := hY
  rw [hr] at hr'
  simp only [Value.slice.injEq, Option.some.injEq, Addr.mk.injEq, and_true] at hr'
  obtain ⟨rfl, rfl, rfl⟩ := hr'
  obtain ⟨hz, xs, vals, hown, hrep⟩ := I.ent k _ hk
  have hown' := hown
  rw [hr] at hown'
  rcases hown'.2 with ⟨h, _⟩ | ⟨g2, c2, cur, hv, _, hg, hcap, hmax, hcs, htk⟩
  · cases h
  · simp only [Value.slice.injEq, Option.some.injEq, Addr.mk.injEq, and_true] at hv
    obtain ⟨rfl, rfl, rfl⟩ := hv
    have hxl : xs.length = l.length * n := hown.1
    have hxo := row_one hz hxl hrep h1
    have hin : i * n ≤ l.length * n := Nat.mul_le_mul_right n hi
    have hjn : j * n ≤ l.length * n := Nat.mul_le_mul_right n hj
    have hcn : l.length * n ≤ c * n := Nat.mul_le_mul_right n hcap
    have hcurL : ∀ q, q < l.length * n → cur.toList[q]? = xs[q]? := by
      intro q hq
      rw [← htk, List.getElem?_take, if_pos hq]
    generalize hKK : Nat.min (l.length - j) (l.length - i) = KK
    have hK1 : KK ≤ l.length - j := by rw [← hKK]; exact Nat.min_le_left _ _
    have hK2 : KK ≤ l.length - i := by rw [← hKK]; exact Nat.min_le_right _ _
    generalize hcs' : (xs.drop (j * n)).take (xs.length - i * n) = cs
    have hcl : cs.length = KK * n := by
      rw [← hcs', List.length_take, List.length_drop, hxl, ← Nat.sub_mul, ← Nat.sub_mul, ← hKK]
      rcases Nat.le_total (l.length - j) (l.length - i) with h | h
      · rw [show Nat.min (l.length - j) (l.length - i) = l.length - j from Nat.min_eq_left h]
        exact Nat.min_eq_right (Nat.mul_le_mul_right n h)
      · rw [show Nat.min (l.length - j) (l.length - i) = l.length - i from Nat.min_eq_right h]
        exact Nat.min_eq_left (Nat.mul_le_mul_right n h)
    have hK1n : KK * n ≤ l.length * n - j * n := by rw [← Nat.sub_mul]; exact Nat.mul_le_mul_right n hK1
    have hK2n : KK * n ≤ l.length * n - i * n := by rw [← Nat.sub_mul]; exact Nat.mul_le_mul_right n hK2
    have hKz : KK = 0 → cs = [] := fun h => List.eq_nil_of_length_eq_zero (by rw [hcl, h, Nat.zero_mul])
    have hrun : ∃ p, (c ≠ i → p = i * n) ∧ p ≤ i * n ∧ a.eval x = .slice (some ⟨g, p, none⟩) (l.length - i) (c - i) := by
      by_cases hc : c = i
      · exact ⟨0, fun h => (h hc).elim, Nat.zero_le _, by rw [hxv, if_pos hc]⟩
      · exact ⟨i * n, fun _ => rfl, Nat.le_refl _, by rw [hxv, if_neg hc]⟩
    have hrun2 : ∃ q, (c ≠ j → q = j * n) ∧ a.eval y = .slice (some ⟨g, q, none⟩) (l.length - j) (c - j) := by
      by_cases hc : c = j
      · exact ⟨0, fun h => (h hc).elim, by rw [hyv, if_pos hc]⟩
      · exact ⟨j * n, fun _ => rfl, by rw [hyv, if_neg hc]⟩
    obtain ⟨p, hp1, hp2, hpx⟩ := hrun
    obtain ⟨q, hq1, hqy⟩ := hrun2
    have hsrc : ∀ r v, cs[r]? = some v → w.cell? ((⟨g, q, none⟩ : Addr).add r) = some v := by
      intro r v hv
      have hlt := (List.getElem?_eq_some_iff.1 hv).1
      have hcj : c ≠ j := by
        intro h
        have : KK = 0 := by omega
        rw [hKz this] at hlt
        simp at hlt
      rw [addr_add, hq1 hcj]
      rw [← hcs', List.getElem?_take, if_pos (by omega), List.getElem?_drop] at hv
      rw [← hcurL (j * n + r) (by omega), Array.getElem?_toList] at hv
      simp [World.cell?, hg, hv]
    have hrun3 := run_copy_rowN (P := Γ.P) w t t' o.type e g p (l.length - i) (c - i) n ⟨g, q, none⟩ (l.length - j) (c - j) cur T cs hu hs hg (by rw [hKK]; exact hcl) hsrc (by rw [hcs]; omega) (fun v hv => hxo v (by rw [← hcs'] at hv; exact List.mem_of_mem_drop (List.mem_of_mem_take hv)))
    have run : (execOp a.eval o).run Γ.P w = .ok (.value (goInt (Nat.min (l.length - j) (l.length - i)))) (w.setRow g (cur.toList.take p ++ (cs ++ cur.toList.drop (p + cs.length))).toArray) := by
      simp [execOp, ho, resolve, invoke, builtin, hpx, hqy, hrun3]
    unfold XOk oN
    rw [run]
    have hbk : blk (ρ k) = some g := by rw [hr]; rfl
    have hsz : ∀ cs', (w.setRow g cs').heap.size = w.heap.size := fun cs' => by simp [World.setRow]
    refine ⟨_, hK, ⟨ρ, ?_⟩, fun h => h.elim⟩
    refine (I.turn (w' := w.setRow g (cur.toList.take p ++ (cs ++ cur.toList.drop (p + cs.length))).toArray) (e := .row n T (cpy l i j)) hk ⟨rfl, rfl, rfl, by rw [hsz]; exact Nat.le_refl _⟩ (fun b hb hne => setRow_other w g b _ (fun h => hne (by rw [hbk, h]))) ?_).put (dstOk_spec hdn) trivial
    have hnl : (cur.toList.take p ++ (cs ++ cur.toList.drop (p + cs.length))).length = cur.size := by simp; omega
    have hxc : cpy xs (i * n) (j * n) = (cur.toList.take p ++ (cs ++ cur.toList.drop (p + cs.length))).take (l.length * n) := by
      apply List.ext_getElem?
      intro r
      rw [cpy_get xs (i * n) (j * n) (by omega), hcs']
      by_cases hrl : r < l.length * n
      · rw [List.getElem?_take, if_pos hrl]
        by_cases hc : c = i
        · have hc0 : cs = [] := hKz (by omega)
          rw [if_neg (by intro h; have := h.2; rw [hc0, List.length_nil] at this; omega), hc0]
          simp only [List.length_nil, Nat.add_zero, List.nil_append, List.take_append_drop]
          exact (hcurL r hrl).symm
        · have hpi := hp1 hc
          subst hpi
          by_cases h2 : i * n ≤ r ∧ r < i * n + cs.length
          · rw [if_pos h2, List.getElem?_append_right (by simp; omega), List.getElem?_append_left (by simp; omega), ← hcs', List.getElem?_take, if_pos (by simp; omega), List.getElem?_drop]
            congr 1; simp; omega
          · rw [if_neg h2]
            by_cases h3 : r < i * n
            · rw [List.getElem?_append_left (by simp; omega), List.getElem?_take, if_pos h3]; exact (hcurL r hrl).symm
            · rw [List.getElem?_append_right (by simp; omega), List.getElem?_append_right (by simp; omega), List.getElem?_drop, ← hcurL r hrl]
              congr 1; simp; omega
      · rw [List.getElem?_take, if_neg hrl, if_neg (by omega), List.getElem?_eq_none (by omega)]
    refine ⟨hz, cpy xs (i * n) (j * n), fun r => if i ≤ r ∧ r < i + KK then vals (j + (r - i)) else vals r, ?_, fun r s hr' => ?_⟩
    · rw [hr, cpy_len _ _ _ hi]
      refine ⟨by rw [cpy_len _ _ _ (by omega), hxl], .inr ⟨g, c, _, rfl, Nat.zero_le _, setRow_heap w g cur _ T _ hg, hcap, hmax, by simpa [hcs] using hnl, ?_⟩⟩
      rw [hxc]
    · have hkp : Kp w (Own Γ σ.h ρ) (w.setRow g (cur.toList.take p ++ (cs ++ cur.toList.drop (p + cs.length))).toArray) (Own Γ (ins k (.row n T (cpy l i j)) σ.h) ρ) := by
        intro b hb hno
        refine ⟨setRow_other w g b _ (fun h => hno (.inr ⟨k, _, hk, by rw [hbk, h]⟩)), ?_⟩
        rintro (hO | ⟨k1, e1, hk1, hb1⟩)
        · exact hno (.inl hO)
        · rw [lookup_ins] at hk1
          by_cases hkk : k1 = k
          · subst hkk; exact hno (.inr ⟨k1, _, hk, hb1⟩)
          · rw [if_neg hkk] at hk1; exact hno (.inr ⟨k1, e1, hk1, hb1⟩)
      have hcl3 : ((l.drop j).take (l.length - i)).length = KK := by rw [List.length_take, List.length_drop, ← hKK]; exact Nat.min_comm _ _
      rw [cpy_get l i j hi, hcl3] at hr'
      by_cases h2 : i ≤ r ∧ r < i + KK
      · simp only [if_pos h2] at hr' ⊢
        obtain ⟨r1, r2, r3⟩ := hrep _ _ hr'
        refine ⟨r1.kp hkp, r2, fun j' u hu' => ?_⟩
        have hjn : j' < n := by have := (Array.getElem?_eq_some_iff.1 hu').1; omega
        rw [cpy_cells hz hxl hi hj hjn KK hKK.symm, if_pos h2]
        exact r3 j' u hu'
      · simp only [if_neg h2] at hr' ⊢
        obtain ⟨r1, r2, r3⟩ := hrep _ _ hr'
        refine ⟨r1.kp hkp, r2, fun j' u hu' => ?_⟩
        have hjn : j' < n := by have := (Array.getElem?_eq_some_iff.1 hu').1; omega
        rw [cpy_cells hz hxl hi hj hjn KK hKK.symm, if_neg h2]
        exact r3 j' u hu'
end
section
variable {Γ : Ctx} {ops : Array Oper} {l : List (Oper × Nat)} {t : List (Nat × LV)} {h : List (Nat × Ent)} {K : St → Prop} {c d ty : Nat} {ps : String} {af : Array Edge} {x y : Operand}
theorem q_copyn {S S' k n T e i j : Nat} {r : List SV} (he : elOf Γ.P S = some (e, n)) (hx : St.ev ⟨t, h⟩ x = .osub k n i) (hy : St.ev ⟨t, h⟩ y = .osub k n j) (hh : h.lookup k = some (.row n T r)) (hi : i ≤ r.length) (hj : j ≤ r.length) (h1 : ∀ s ∈ r, (∃ c, s = .agg c) ∨ s.one = true)
    (hk : RunL Γ ops l ⟨(d, .dead) :: t, ins k (.row n T (cpy r i j)) h⟩ K) :
    RunL Γ ops ((⟨some d, .call { callee := .builtin .copy, args := #[x, y], argTypes := #[S, S'] }, ty, ps, af, none⟩, 2) :: l) ⟨t, h⟩ K :=
  run_x (ext := False) rfl (by omega) (fun h => (h rfl).elim) fun _ _ _ I hd => ok_copyn I rfl hd he hx hy hh hi hj h1 hk
end
end Go.Abs

/- slices.Insert of one element into a row of ours. No condition. -/
set_option linter.unusedVariables false
set_option linter.unusedSimpArgs false
namespace Go.Abs
open Go Go.RowKit Go.Eager Go.Shelf Go.Lib Go.Proofs
noncomputable def insF (ρ : Ren) (nm : String) (ta : Array TypeId) : Func := { Body2.n22 ρ with name := nm, targs := ta }
/-- What a program says of slices.Insert at elements of s cells. -/
structure InsL (P : Program) (ρ : Ren) (s by_ : Nat) (z : Value) : Prop where
  mixed : P.follows .mixedOrders = true
  f22 : ∃ nm ta, P.funcs[ρ.f 22]? = some (insF ρ nm ta)
  f29 : ∃ fn, P.funcs[ρ.f 29]? = some fn ∧ (fn.name == "runtime.NumGoroutine") = false ∧ fn.body.isNone = true ∧ Extern.findNext fn = none ∧ Extern.find fn = some (Extern.SlicesOverlaps.overlaps #[(ρ.t 24), (ρ.t 24)] #[(ρ.t 4)])
  t3 : P.underlying (ρ.t 3) = some (TypeDesc.int IntKind.i64)
  a3 : ∀ w, (isAgg (ρ.t 3)).run P w = .ok false w
  t4 : P.underlying (ρ.t 4) = some (TypeDesc.bool)
  a4 : ∀ w, (isAgg (ρ.t 4)).run P w = .ok false w
  z9 : ∀ w, (Go.sizeOf (ρ.t 9)).run P w = .ok s w
  t24 : P.underlying (ρ.t 24) = some (TypeDesc.slice (ρ.t 9))
  a24 : ∀ w, (isAgg (ρ.t 24)).run P w = .ok false w
  i9 : (P.info? (ρ.t 9)).map (fun i => (i.zero, i.size, i.bytes)) = some (some z, s, by_)
  zs : z.cells.size = s
section
variable {P : Program} {ρ : Ren}
theorem shape_cells {w : World} {b : Nat} {cur : Array Value} {T : TypeId} {fr : Nat × Nat} (h : w.heap[b]? = some (.cells cur T fr)) : w.shape? b = some (T, cur.size) := by
  simp [World.shape?, h]
theorem frozen_cells {w : World} {b o : Nat} {cur : Array Value} {T : TypeId} (h : w.heap[b]? = some (.cells cur T (0, 0))) : w.frozen? ⟨b, o, none⟩ = false := by
  simp [World.frozen?, h]
theorem cell_cells {w : World} {b o : Nat} {cur : Array Value} {T : TypeId} {fr : Nat × Nat} (h : w.heap[b]? = some (.cells cur T fr)) : w.cell? ⟨b, o, none⟩ = cur[o]? := by
  simp [World.cell?, h]
set_option maxHeartbeats 4000000 in
set_option maxRecDepth 100000 in
/-- There is room, and elements stand behind. -/
theorem ins_shift {s by_ : Nat} {z : Value} (L : InsL P ρ s by_ z) (hs : 0 < s) (b n c i vb vc T Tv : Nat) (cur cv : Array Value) (cs vs : List Value) (w : World) (hi : i < n) (hroom : n + 1 ≤ c) (hc63 : c ≤ 9223372036854775807) (hvb : vb ≠ b)
    (hg : w.heap[b]? = some (.cells cur T (0, 0))) (hcs : cur.size = c * s) (hcl : cs.length = n * s) (htk : cur.toList.take (n * s) = cs) (hgv : w.heap[vb]? = some (.cells cv Tv (0, 0))) (hvt : cv.toList.take s = vs) (hvl : vs.length = s)
    (h1c : ∀ v ∈ cs, v.oneCell' = true) (h1v : ∀ v ∈ vs, v.oneCell' = true) :
    Calls P (ρ.f 22) #[.slice (some ⟨b, 0, none⟩) n c, .int .i64 i, .slice (some ⟨vb, 0, none⟩) 1 vc] w fun e w' =>
      e = .returned (.slice (some ⟨b, 0, none⟩) (n + 1) c) ∧ ∃ cur' : Array Value, w' = w.drew.setRow b cur' ∧ cur'.size = cur.size ∧ cur'.toList.take ((n + 1) * s) = cs.take (i * s) ++ vs ++ cs.drop (i * s) := by
  obtain ⟨nm, ta, hf22⟩ := L.f22
  obtain ⟨fo, hf29, ho1, ho2, ho3, ho4⟩ := L.f29
  have t3 := L.t3; have a3 := L.a3; have t4 := L.t4; have a4 := L.a4; have z9 := L.z9; have t24 := L.t24; have a24 := L.a24
  have u3 := run_underlying L.t3; have u4 := run_underlying L.t4; have u24 := run_underlying L.t24
  have hz2 : ¬ ((i : Int) = (n : Int)) := by omega
  have hsz : (P.info? (ρ.t 9)).map (·.size) = some s := by
    obtain ⟨i0, hi0, h0, h1, h2⟩ := info_parts L.i9
    rw [hi0]; simp [h1]
  have e1 : (i + 1) * s = i * s + s := by rw [Nat.add_mul, Nat.one_mul]
  have e2 : (n + 1) * s = n * s + s := by rw [Nat.add_mul, Nat.one_mul]
  have e3 : i * s + (n - i) * s = n * s := by rw [← Nat.add_mul]; congr 1; omega
  have e4 : (n + 1) * s ≤ c * s := Nat.mul_le_mul_right s hroom
  have hcurc : ∀ j v, cs[j]? = some v → cur[j]? = some v := fun j v hj => by
    have hlt := (List.getElem?_eq_some_iff.1 hj).1
    rw [← htk, List.getElem?_take, if_pos (by omega), Array.getElem?_toList] at hj
    exact hj
  have hcvc : ∀ j v, vs[j]? = some v → cv[j]? = some v := fun j v hj => by
    have hlt := (List.getElem?_eq_some_iff.1 hj).1
    rw [← hvt, List.getElem?_take, if_pos (by omega), Array.getElem?_toList] at hj
    exact hj
  have hov : ∀ lb cb, (callFunc (ρ.f 29) #[.slice (some ⟨vb, 0, none⟩) 1 vc, .slice (some ⟨b, i * s + s, none⟩) lb cb]).run P w = .ok (.value (.bool false)) w := fun lb cb => by
    rw [run_callFunc_extern hf29 ho1 ho2 ho3 ho4,
      Lib.run_overlaps_apart w (ρ.t 24) (ρ.t 4) (ρ.t 9) L.t24 s L.z9 ⟨vb, 0, none⟩ ⟨b, i * s + s, none⟩ 1 vc lb cb hvb Tv T cv.size cur.size (shape_cells hgv) (shape_cells hg) (by rw [hcs]; omega) (frozen_cells hgv) (frozen_cells hgv)]
    rfl
  have hdl : (cs.drop (i * s)).length = (n - i) * s := by rw [List.length_drop, hcl]; omega
  have mixed := L.mixed
  have hw1 : IntKind.i64.wrap ((i : Int) + 1) = (i : Int) + 1 := by rw [IntKind.wrap_i64]; omega
  have hw2 : IntKind.i64.wrap ((n : Int) + 1) = (n : Int) + 1 := by rw [IntKind.wrap_i64]; omega
  have hb1 : (0 : Int) ≤ (i : Int) + 1 := by omega
  have hin : i ≤ n := by omega
  have htn : ((i : Int) + 1).toNat = i + 1 := by omega
  have hb2 : ¬ (c = i + 1) := by omega
  have hb3 : (i : Int) ≤ (n : Int) + 1 := by omega
  have hb4 : ¬ (c = i) := by omega
  have hmin : Nat.min (n + 1 - i) (n - i) = n - i := by simp only [Nat.min_def]; split <;> omega
  have hmin2 : Nat.min 1 (n + 1 - i) = 1 := by simp only [Nat.min_def]; split <;> omega
  obtain ⟨cur1, hcur1⟩ : ∃ cur1 : Array Value, cur1.toList = cur.toList.take (i * s + s) ++ cs.drop (i * s) ++ cur.toList.drop (i * s + s + (cs.drop (i * s)).length) := ⟨(cur.toList.take (i * s + s) ++ cs.drop (i * s) ++ cur.toList.drop (i * s + s + (cs.drop (i * s)).length)).toArray, by simp⟩
  have hgd : w.drew.heap[b]? = some (.cells cur T (0, 0)) := hg
  have hcp1 : ∀ ty dc sc, (Builtin.copy_ #[(ρ.t 24), (ρ.t 24)] ty #[.slice (some ⟨b, i * s + s, none⟩) (n - i) dc, .slice (some ⟨b, i * s, none⟩) (n + 1 - i) sc]).run P w.drew = .ok (goInt (n - i : Nat)) (w.drew.setRow b cur1) := fun ty dc sc => by
    have h := run_copy_rowN (P := P) w.drew (ρ.t 24) (ρ.t 24) ty (ρ.t 9) b (i * s + s) (n - i) dc s ⟨b, i * s, none⟩ (n + 1 - i) sc cur T (cs.drop (i * s)) L.t24 hsz hgd (by rw [hmin]; exact hdl)
      (fun j v hj => by rw [addr_add, cell_cells hgd]; exact hcurc _ _ (by rwa [List.getElem?_drop] at hj)) (by rw [hdl, hcs]; omega) (fun v hv => h1c v (List.mem_of_mem_drop hv))
    rw [hmin] at h
    rw [h, ← hcur1]
  have hsz1 : cur1.size = cur.size := by rw [← Array.length_toList, hcur1]; simp [hdl]; omega
  have hg1 : (w.drew.setRow b cur1).heap[b]? = some (.cells cur1 T (0, 0)) := setRow_heap w.drew b cur cur1 T _ hgd
  obtain ⟨cur2, hcur2⟩ : ∃ cur2 : Array Value, cur2.toList = cur1.toList.take (i * s) ++ vs ++ cur1.toList.drop (i * s + vs.length) := ⟨(cur1.toList.take (i * s) ++ vs ++ cur1.toList.drop (i * s + vs.length)).toArray, by simp⟩
  have hcp2 : ∀ (ty dc : Nat), (Builtin.copy_ #[(ρ.t 24), (ρ.t 24)] ty #[.slice (some ⟨b, i * s, none⟩) (n + 1 - i) dc, .slice (some ⟨vb, 0, none⟩) 1 vc]).run P (w.drew.setRow b cur1) = .ok (goInt (1 : Nat)) ((w.drew.setRow b cur1).setRow b cur2) := fun ty dc => by
    have h := run_copy_rowN (P := P) (w.drew.setRow b cur1) (ρ.t 24) (ρ.t 24) ty (ρ.t 9) b (i * s) (n + 1 - i) dc s ⟨vb, 0, none⟩ 1 vc cur1 T vs L.t24 hsz hg1 (by rw [hmin2, Nat.one_mul]; exact hvl)
      (fun j v hj => by
        rw [addr_add, cell_cells (b := vb) (o := 0 + j) (cur := cv) (T := Tv) (fr := (0, 0)) ((setRow_other w.drew b vb cur1 hvb).trans hgv), Nat.zero_add]
        exact hcvc j v hj) (by rw [hvl, hsz1, hcs]; omega) h1v
    rw [hmin2] at h
    rw [h, ← hcur2]
  unfold insF at hf22
  go_enter hf22, Body2.n22_ntmps ρ
  go_wp2_with (simp only [hov])
  go_region_law_o (refine step_copy_runI rfl _ _ (ρ.t 24) (ρ.t 24) rfl _ _ (by simp [Act.eval, Act.put]) (by simp [Act.eval, Act.put]) (hcp1 _ _ _) ?_)
  go_wp2_with (at_builtin; refine wpList_copy_runI _ rfl _ _ (ρ.t 24) (ρ.t 24) rfl _ _ rfl rfl (hcp2 _ _) ?_)
  go_ret
  have hlen : cur.toList.length = c * s := by rw [Array.length_toList]; exact hcs
  have q1 : cur1.toList.take (i * s) = cs.take (i * s) := by
    rw [hcur1, List.append_assoc, List.take_append_of_le_length (by rw [List.length_take]; omega), List.take_take, ← htk, List.take_take]
    congr 1
    omega
  have q2 : cur1.toList.drop (i * s + s) = cs.drop (i * s) ++ cur.toList.drop (i * s + s + (cs.drop (i * s)).length) := by
    rw [hcur1, List.append_assoc, List.drop_left' (by rw [List.length_take]; omega)]
  rw [q1, hvl, q2] at hcur2
  have hl1 : (cs.take (i * s)).length = i * s := by rw [List.length_take]; omega
  refine ⟨rfl, cur2, setRow_setRow _ _ _ _, ?_, ?_⟩
  · rw [← Array.length_toList, hcur2]
    simp only [List.length_append, hl1, hvl, hdl, List.length_drop, hlen]
    omega
  · rw [hcur2, ← List.append_assoc (cs.take (i * s) ++ vs), List.take_left' (by simp only [List.length_append, hl1, hvl, hdl]; omega)]
set_option maxHeartbeats 4000000 in
set_option maxRecDepth 100000 in
/-- Behind all elements. -/
theorem ins_end {s by_ : Nat} {z : Value} (L : InsL P ρ s by_ z) (a : Option Addr) (n c vb vc : Nat) (w w' : World) (v' : Value)
    (hr : ∀ ty, (Builtin.append_ #[ρ.t 24, ρ.t 24] ty #[.slice a n c, .slice (some ⟨vb, 0, none⟩) 1 vc]).run P w = .ok v' w') (hc : n ≤ c) (ha : a = none ∨ ∃ b, a = some ⟨b, 0, none⟩) (h0 : a = none → n = 0 ∧ c = 0) :
    Calls P (ρ.f 22) #[.slice a n c, .int .i64 n, .slice (some ⟨vb, 0, none⟩) 1 vc] w fun e w2 => e = .returned v' ∧ w2 = w' := by
  obtain ⟨nm, ta, hf22⟩ := L.f22
  have t3 := L.t3; have a3 := L.a3; have t4 := L.t4; have a4 := L.a4; have z9 := L.z9; have t24 := L.t24; have a24 := L.a24
  have u3 := run_underlying L.t3; have u4 := run_underlying L.t4; have u24 := run_underlying L.t24
  have mixed := L.mixed
  unfold insF at hf22
  go_enter hf22, Body2.n22_ntmps ρ
  rcases ha with rfl | ⟨b, rfl⟩
  · obtain ⟨rfl, rfl⟩ := h0 rfl
    go_wp2_with (at_builtin; refine Lib.wpList_append_run _ rfl _ _ _ _ rfl _ _ rfl rfl _ _ (hr _) ?_)
    go_ret
    exact ⟨rfl, rfl⟩
  · go_wp2_with (at_builtin; refine Lib.wpList_append_run _ rfl _ _ _ _ rfl _ _ rfl rfl _ _ (hr _) ?_)
    all_goals (go_ret; exact ⟨rfl, rfl⟩)
set_option maxHeartbeats 4000000 in
set_option maxRecDepth 100000 in
/-- There is no room, and elements stand behind. -/
theorem ins_grow {s by_ : Nat} {z : Value} (L : InsL P ρ s by_ z) (hs : 0 < s) (b n c i vb vc T Tv : Nat) (cur cv : Array Value) (cs vs : List Value) (w : World) (hi : i < n) (hnc : n ≤ c) (hroom : c < n + 1) (hbig : (n + 1) * by_ ≤ 140737488355328) (h63 : n + 1 ≤ maxLen)
    (hg : w.heap[b]? = some (.cells cur T (0, 0))) (hcs : cur.size = c * s) (hcl : cs.length = n * s) (htk : cur.toList.take (n * s) = cs) (hgv : w.heap[vb]? = some (.cells cv Tv (0, 0))) (hvt : cv.toList.take s = vs) (hvl : vs.length = s)
    (h1c : ∀ v ∈ cs, v.oneCell' = true) (h1v : ∀ v ∈ vs, v.oneCell' = true) :
    Calls P (ρ.f 22) #[.slice (some ⟨b, 0, none⟩) n c, .int .i64 i, .slice (some ⟨vb, 0, none⟩) 1 vc] w fun e w' =>
      ∃ G, e = .returned (.slice (some ⟨w.heap.size, 0, none⟩) (n + 1) G) ∧ n + 1 ≤ G ∧ G ≤ maxLen ∧ w.grownBy w' (some b) ∧ w'.heap.size = w.heap.size + 1 ∧ ∃ cur' : Array Value, w'.heap[w.heap.size]? = some (.cells cur' (ρ.t 9) (0, 0)) ∧ cur'.size = G * s ∧ cur'.toList.take ((n + 1) * s) = cs.take (i * s) ++ vs ++ cs.drop (i * s) := by
  obtain ⟨nm, ta, hf22⟩ := L.f22
  have t3 := L.t3; have a3 := L.a3; have t4 := L.t4; have a4 := L.a4; have z9 := L.z9; have t24 := L.t24; have a24 := L.a24
  have u3 := run_underlying L.t3; have u4 := run_underlying L.t4; have u24 := run_underlying L.t24
  have mixed := L.mixed
  obtain ⟨i0, hi0, hz0, hzs, hzb⟩ := info_parts L.i9
  have hzz := L.zs
  have hsz : (P.info? (ρ.t 9)).map (·.size) = some s := by rw [hi0]; simp [hzs]
  have hz2 : ¬ ((i : Int) = (n : Int)) := by omega
  have hz3 : (c : Int) < (n : Int) + 1 := by omega
  have e1 : (i + 1) * s = i * s + s := by rw [Nat.add_mul, Nat.one_mul]
  have e2 : (n + 1) * s = n * s + s := by rw [Nat.add_mul, Nat.one_mul]
  have e3 : i * s + (n - i) * s = n * s := by rw [← Nat.add_mul]; congr 1; omega
  have hcurc : ∀ j v, cs[j]? = some v → cur[j]? = some v := fun j v hj => by
    have hlt := (List.getElem?_eq_some_iff.1 hj).1
    rw [← htk, List.getElem?_take, if_pos (by omega), Array.getElem?_toList] at hj
    exact hj
  have hcvc : ∀ j v, vs[j]? = some v → cv[j]? = some v := fun j v hj => by
    have hlt := (List.getElem?_eq_some_iff.1 hj).1
    rw [← hvt, List.getElem?_take, if_pos (by omega), Array.getElem?_toList] at hj
    exact hj
  have hbw : b < w.heap.size := (Array.getElem?_eq_some_iff.1 hg).1
  have hvw : vb < w.heap.size := (Array.getElem?_eq_some_iff.1 hgv).1
  have hdl : (cs.drop (i * s)).length = (n - i) * s := by rw [List.length_drop, hcl]; omega
  have hl1 : (cs.take (i * s)).length = i * s := by rw [List.length_take]; omega
  have hik : i + (n + 1 - i) = n + 1 := by omega
  have hold : (Builtin.firstCells i0.size i (.slice (some ⟨b, 0, none⟩) i c)).run P w.drew = .ok (cs.take (i * s)).toArray w.drew := by
    rw [hzs]
    exact run_firstCells_some w.drew s i ⟨b, 0, none⟩ i c (cs.take (i * s)) (by rw [hl1]) (fun j v hj => by
      rw [addr_add, Nat.zero_add, cell_cells (w := w.drew) hg]
      rw [List.getElem?_take] at hj
      split at hj
      · exact hcurc j v hj
      · cases hj)
  have hkk : (n : Int) + 1 - (i : Int) = ((n + 1 - i : Nat) : Int) := by omega
  obtain ⟨G, hG⟩ : ∃ G, grownCap w (n + 1) c (ρ.t 9) = G := ⟨_, rfl⟩
  obtain ⟨ROW, hROW⟩ : ∃ ROW : Array Value, (cs.take (i * s)).toArray ++ Builtin.zeroCells z.cells (n + 1 - i) ++ Builtin.zeroCells z.cells (G - (n + 1)) = ROW := ⟨_, rfl⟩
  have hGn : n + 1 ≤ G := by rw [← hG]; exact grownCap_ge w _ _ _
  have hGm : G ≤ maxLen := by rw [← hG]; exact grownCap_le_maxLen w _ _ _ h63
  have hG63 : G ≤ 9223372036854775807 := by unfold maxLen at hGm; omega
  have hrz : ∀ ty, (Builtin.append_ #[(ρ.t 24), (ρ.t 3)] ty #[.slice (some ⟨b, 0, none⟩) i c, .int .i64 ((n : Int) + 1 - (i : Int))]).run P w =
      .ok (.slice (some ⟨w.heap.size, 0, none⟩) (n + 1) G) (w.drew.alloc (.cells ROW (ρ.t 9))) := fun ty => by
    have h := Lib.run_append_grow_zeros w (ρ.t 24) (ρ.t 3) ty (ρ.t 9) i0 _ .i64 .i64 L.t24 L.t3 hi0 hz0 (some ⟨b, 0, none⟩) i c (cs.take (i * s)) hold (n + 1 - i) (by omega) (by omega) (by omega) (by unfold maxLen at h63; omega) (by rw [hzb]; exact Nat.le_trans (Nat.mul_le_mul_right by_ (by omega : n + 1 - i ≤ n + 1)) (by omega)) (by rw [hzb, hik]; exact growslice_fits hroom hbig)
    rw [hik, hG, hROW] at h
    rw [hkk]
    exact h
  have hRl : ROW.size = G * s := by
    rw [← hROW]
    simp only [Array.size_append, List.size_toArray, hl1, size_zeroCells, hzz]
    rw [← Nat.add_mul, ← Nat.add_mul]
    congr 1
    omega
  have hRt : ROW.toList.take (i * s) = cs.take (i * s) := by
    rw [← hROW]
    simp only [Array.toList_append, List.append_assoc]
    rw [List.take_left' hl1]
  have hGs : (n + 1) * s ≤ G * s := Nat.mul_le_mul_right s hGn
  obtain ⟨N, hN⟩ : ∃ N, w.heap.size = N := ⟨_, rfl⟩
  rw [hN] at hrz hbw hvw ⊢
  have hNs : ∀ k, k ≠ N → k < N + 1 → k < N := fun k h1 h2 => by omega
  obtain ⟨W1, hW1⟩ : ∃ W1, w.drew.alloc (.cells ROW (ρ.t 9)) = W1 := ⟨_, rfl⟩
  rw [hW1] at hrz
  have hWh : W1.heap = w.heap.push (.cells ROW (ρ.t 9) (0, 0)) := by rw [← hW1]; rfl
  have hWos : W1.os = w.os ∧ W1.tape = w.tape ∧ W1.output = w.output := by rw [← hW1]; exact ⟨rfl, rfl, rfl⟩
  have hWs : W1.heap.size = N + 1 := by rw [hWh, Array.size_push, hN]
  have hWN : W1.heap[N]? = some (.cells ROW (ρ.t 9) (0, 0)) := by rw [hWh, Array.getElem?_push, if_pos hN.symm]
  have hWo : ∀ k, k < N → W1.heap[k]? = w.heap[k]? := fun k hk => by rw [hWh, Array.getElem?_push, if_neg (by omega)]
  have hmin2 : Nat.min 1 (n + 1 - i) = 1 := by simp only [Nat.min_def]; split <;> omega
  have hmin3 : Nat.min (n - i) (n - i) = n - i := Nat.min_self _
  obtain ⟨curA, hcurA⟩ : ∃ curA : Array Value, curA.toList = ROW.toList.take (i * s) ++ vs ++ ROW.toList.drop (i * s + vs.length) := ⟨(ROW.toList.take (i * s) ++ vs ++ ROW.toList.drop (i * s + vs.length)).toArray, by simp⟩
  have e5 : i * s ≤ n * s := Nat.mul_le_mul_right s (by omega)
  have hszA : curA.size = G * s := by
    rw [← Array.length_toList, hcurA]
    simp only [List.length_append, List.length_take, List.length_drop, Array.length_toList, hvl, hRl]
    omega
  obtain ⟨W2, hW2⟩ : ∃ W2, W1.setRow N curA = W2 := ⟨_, rfl⟩
  have hcpA : ∀ (ty dc : Nat), (Builtin.copy_ #[(ρ.t 24), (ρ.t 24)] ty #[.slice (some ⟨N, i * s, none⟩) (n + 1 - i) dc, .slice (some ⟨vb, 0, none⟩) 1 vc]).run P W1 = .ok (goInt (1 : Nat)) W2 := fun ty dc => by
    have h := run_copy_rowN (P := P) W1 (ρ.t 24) (ρ.t 24) ty (ρ.t 9) N (i * s) (n + 1 - i) dc s ⟨vb, 0, none⟩ 1 vc ROW (ρ.t 9) vs L.t24 hsz hWN (by rw [hmin2, Nat.one_mul]; exact hvl)
      (fun j v hj => by rw [addr_add, cell_cells ((hWo vb hvw).trans hgv), Nat.zero_add]; exact hcvc j v hj) (by rw [hvl, hRl]; omega) h1v
    rw [hmin2] at h
    rw [h, ← hcurA, ← hW2]
  have hW2N : W2.drew.heap[N]? = some (.cells curA (ρ.t 9) (0, 0)) := by rw [← hW2]; exact setRow_heap W1 N ROW curA _ _ hWN
  have hW2o : ∀ k, k < N → W2.drew.heap[k]? = w.heap[k]? := fun k hk => by
    have : W2.drew.heap = W2.heap := rfl
    rw [this, ← hW2]
    exact (setRow_other W1 N k _ (by omega)).trans (hWo k hk)
  have hW2s : W2.drew.heap.size = N + 1 := by
    have : W2.drew.heap = W2.heap := rfl
    rw [this, ← hW2, ← hWs]; simp [World.setRow]
  have hW2os : W2.drew.os = w.os ∧ W2.drew.tape = w.tape ∧ W2.drew.output = w.output := by rw [← hW2]; exact hWos
  obtain ⟨curB, hcurB⟩ : ∃ curB : Array Value, curB.toList = curA.toList.take (i * s + s) ++ cs.drop (i * s) ++ curA.toList.drop (i * s + s + (cs.drop (i * s)).length) := ⟨(curA.toList.take (i * s + s) ++ cs.drop (i * s) ++ curA.toList.drop (i * s + s + (cs.drop (i * s)).length)).toArray, by simp⟩
  have hcpB : ∀ (ty dc sc : Nat), (Builtin.copy_ #[(ρ.t 24), (ρ.t 24)] ty #[.slice (some ⟨N, i * s + s, none⟩) (n - i) dc, .slice (some ⟨b, i * s, none⟩) (n - i) sc]).run P W2.drew = .ok (goInt (n - i : Nat)) (W2.drew.setRow N curB) := fun ty dc sc => by
    have h := run_copy_rowN (P := P) W2.drew (ρ.t 24) (ρ.t 24) ty (ρ.t 9) N (i * s + s) (n - i) dc s ⟨b, i * s, none⟩ (n - i) sc curA (ρ.t 9) (cs.drop (i * s)) L.t24 hsz hW2N (by rw [hmin3]; exact hdl)
      (fun j v hj => by rw [addr_add, cell_cells ((hW2o b hbw).trans hg)]; exact hcurc _ _ (by rwa [List.getElem?_drop] at hj)) (by rw [hdl, hszA]; omega) (fun v hv => h1c v (List.mem_of_mem_drop hv))
    rw [hmin3] at h
    rw [h, ← hcurB]
  have hfin : w.grownBy (W2.drew.setRow N curB) (some b) ∧ (W2.drew.setRow N curB).heap.size = N + 1 ∧ ∃ cur' : Array Value, (W2.drew.setRow N curB).heap[N]? = some (.cells cur' (ρ.t 9) (0, 0)) ∧ cur'.size = G * s ∧ cur'.toList.take ((n + 1) * s) = cs.take (i * s) ++ vs ++ cs.drop (i * s) := by
    have hsz2 : (W2.drew.setRow N curB).heap.size = N + 1 := by rw [← hW2s]; simp [World.setRow]
    refine ⟨⟨hW2os.1, hW2os.2.1, hW2os.2.2, by rw [hsz2, hN]; omega, fun k hk _ => (setRow_other W2.drew N k _ (by omega)).trans (hW2o k (by omega))⟩, hsz2, curB, setRow_heap W2.drew N curA curB _ _ hW2N, ?_, ?_⟩
    · rw [← Array.length_toList, hcurB]
      simp [hdl, hszA]
      omega
    · have hAl : curA.toList.length = G * s := by rw [Array.length_toList]; exact hszA
      have q1 : curA.toList.take (i * s + s) = cs.take (i * s) ++ vs := by
        rw [hcurA, hRt, List.take_left' (by simp only [List.length_append, hl1, hvl])]
      rw [hcurB, q1, List.take_left' (by simp only [List.length_append, hl1, hvl, hdl]; omega)]
  have hw1 : IntKind.i64.wrap ((i : Int) + 1) = (i : Int) + 1 := by rw [IntKind.wrap_i64]; unfold maxLen at h63; omega
  have hw2 : IntKind.i64.wrap ((n : Int) + 1) = (n : Int) + 1 := by rw [IntKind.wrap_i64]; unfold maxLen at h63; omega
  have hw3 : IntKind.i64.wrap ((n : Int) + 1 - (i : Int)) = (n : Int) + 1 - (i : Int) := by rw [IntKind.wrap_i64]; unfold maxLen at h63; omega
  have hb1 : (0 : Int) ≤ (i : Int) + 1 := by omega
  have hin : i ≤ n := by omega
  have htn : ((i : Int) + 1).toNat = i + 1 := by omega
  have hb3 : (i : Int) ≤ (n : Int) + 1 := by omega
  have hb5 : (i : Int) ≤ (n : Int) := by omega
  have hGi : ¬ (G = i) := by omega
  have hGim : ¬ (G = i + 1) := by omega
  have hci : ¬ (c = i) := by omega
  clear hkk hik hold hROW hG hW1 hW2 hcurA hcurB hWh hWs hWN hWo hW2N hW2o hW2s hW2os hWos hszA hRl hRt hNs hl1 hdl e1 e2 e3 e5 hGs hN
  unfold insF at hf22
  go_enter hf22, Body2.n22_ntmps ρ
  go_wp2_with (first
    | (at_builtin; refine Lib.wpList_append_run _ rfl _ _ _ _ rfl _ _ rfl rfl _ _ (hrz _) ?_)
    | (at_builtin; refine wpList_copy_runI _ rfl _ _ (ρ.t 24) (ρ.t 24) rfl _ _ rfl rfl (hcpA _ _) ?_))
  go_region_law_o (refine step_copy_runI rfl _ _ (ρ.t 24) (ρ.t 24) rfl (.slice (some ⟨N, i * s + s, none⟩) (n - i) (G - (i + 1))) (.slice (some ⟨b, i * s, none⟩) (n - i) (c - i)) (by simp [Act.eval, Act.put, Nat.add_mul]) (by simp [Act.eval, Act.put]) (hcpB (ρ.t 3) (G - (i + 1)) (c - i)) ?_)
  go_wp2
  go_ret
  exact ⟨G, rfl, hGn, hGm, hfin⟩
/-- What slices.Insert says of a row of ours and one element. -/
def InsC (P : Program) (f s T by_ : Nat) : Prop :=
  ∀ (w : World) (v : Value) (n : Nat) (xs : List Value) (i vb vc : Nat) (cv : Array Value) (Tv : TypeId) (vs : List Value), w.ownsRow 0 T s v n xs → (∀ u ∈ xs, u.oneCell' = true) → i ≤ n → (n + 1) * by_ ≤ 140737488355328 → n + 1 ≤ maxLen →
    w.heap[vb]? = some (.cells cv Tv (0, 0)) → cv.toList.take s = vs → vs.length = s → (∀ u ∈ vs, u.oneCell' = true) → blk v ≠ some vb →
    Calls P f #[v, .int .i64 i, .slice (some ⟨vb, 0, none⟩) 1 vc] w fun e w' => ∃ v', e = .returned v' ∧ w'.ownsRow 0 T s v' (n + 1) (xs.take (i * s) ++ vs ++ xs.drop (i * s)) ∧ w.grownBy w' (blk v) ∧ ∀ b, blk v' = some b → b < w'.heap.size ∧ (w.heap.size ≤ b ∨ blk v = some b)
theorem insC_of {s by_ : Nat} {z : Value} (L : InsL P ρ s by_ z) (hs : 0 < s) : InsC P (ρ.f 22) s (ρ.t 9) by_ := by
  intro w v n xs i vb vc cv Tv vs hown h1x hi hbig h63 hgv hvt hvl h1v hne
  obtain ⟨i0, hi0, hz0, hzs, hzb⟩ := info_parts L.i9
  have hnews : ∀ (j : Nat) (u : Value), vs[j]? = some u → w.cell? ((⟨vb, 0, none⟩ : Addr).add j) = some u := fun j u hj => by
    have hlt := (List.getElem?_eq_some_iff.1 hj).1
    rw [← hvt, List.getElem?_take, if_pos (by omega), Array.getElem?_toList] at hj
    rw [addr_add, cell_cells hgv, Nat.zero_add]; exact hj
  by_cases hin : i = n
  · subst hin
    have hxl : xs.length = i * s := hown.1
    rw [show xs.take (i * s) ++ vs ++ xs.drop (i * s) = xs ++ vs by rw [List.take_of_length_le (by omega), List.drop_of_length_le (by omega), List.append_nil]]
    obtain ⟨v', w', h2, h3, h4, h5⟩ := run_append_mine (P := P) w (ρ.t 24) 0 (ρ.t 9) i0 z s by_ L.t24 hi0 hz0 hzs hzb L.zs hs v i xs hown ⟨vb, 0, none⟩ 1 vc vs (by rw [Nat.one_mul]; exact hvl) hnews h1v h63 hbig
    rcases hown.2 with ⟨rfl, rfl⟩ | ⟨g, cap, cur, rfl, _, hg, hnc, hcm, hcs, htk⟩
    · refine (ins_end L none 0 0 vb vc w w' v' (fun ty => h2) (Nat.le_refl _) (.inl rfl) (fun _ => ⟨rfl, rfl⟩)).mono ?_
      rintro e w2 ⟨rfl, rfl⟩
      exact ⟨v', rfl, h3, h4, h5⟩
    · refine (ins_end L (some ⟨g, 0, none⟩) i cap vb vc w w' v' (fun ty => h2) hnc (.inr ⟨g, rfl⟩) (fun h => by cases h)).mono ?_
      rintro e w2 ⟨rfl, rfl⟩
      exact ⟨v', rfl, h3, h4, h5⟩
  · rcases hown.2 with ⟨rfl, rfl⟩ | ⟨g, cap, cur, rfl, _, hg, hnc, hcm, hcs, htk⟩
    · omega
    · have hvg : vb ≠ g := fun h => hne (by rw [h]; rfl)
      by_cases hroom : n + 1 ≤ cap
      · refine (ins_shift L hs g n cap i vb vc (ρ.t 9) Tv cur cv xs vs w (by omega) hroom (by unfold maxLen at hcm; omega) hvg hg hcs hown.1 htk hgv hvt hvl h1x h1v).mono ?_
        rintro e w' ⟨rfl, cur', rfl, k1, k2⟩
        have hdw : w.drew.heap = w.heap := rfl
        have hsz : (w.drew.setRow g cur').heap.size = w.heap.size := by simp [World.setRow, hdw]
        refine ⟨_, rfl, ⟨?_, .inr ⟨g, cap, cur', rfl, Nat.zero_le _, setRow_heap w.drew g cur cur' _ _ hg, hroom, hcm, k1.trans hcs, k2⟩⟩, ⟨rfl, rfl, rfl, by rw [hsz]; exact Nat.le_refl _, fun k hk hne2 => setRow_other w.drew g k _ (fun h => hne2 (by rw [h]; rfl))⟩, fun b hb => ?_⟩
        · have e1 : i * s ≤ n * s := Nat.mul_le_mul_right s hi
          have hxl : xs.length = n * s := hown.1
          simp only [List.length_append, List.length_take, List.length_drop, hvl, hxl]
          rw [Nat.add_mul, Nat.one_mul]
          omega
        · refine ⟨?_, .inr hb⟩
          simp [blk] at hb
          subst hb
          rw [hsz]; exact (Array.getElem?_eq_some_iff.1 hg).1
      · refine (ins_grow L hs g n cap i vb vc (ρ.t 9) Tv cur cv xs vs w (by omega) hnc (by omega) hbig h63 hg hcs hown.1 htk hgv hvt hvl h1x h1v).mono ?_
        rintro e w' ⟨G, rfl, k1, k2, k3, k4, cur', k5, k6, k7⟩
        refine ⟨_, rfl, ⟨?_, .inr ⟨w.heap.size, G, cur', rfl, Nat.zero_le _, k5, k1, k2, k6, k7⟩⟩, k3, fun b hb => ?_⟩
        · have e1 : i * s ≤ n * s := Nat.mul_le_mul_right s hi
          have hxl : xs.length = n * s := hown.1
          simp only [List.length_append, List.length_take, List.length_drop, hvl, hxl]
          rw [Nat.add_mul, Nat.one_mul]
          omega
        · simp [blk] at hb
          subst hb
          exact ⟨by omega, .inl (Nat.le_refl _)⟩
end
/-- A list with one more in its midst. -/
def insAt {α : Type} (l : List α) (i : Nat) (x : α) : List α := l.take i ++ [x] ++ l.drop i
theorem insAt_len {α : Type} (l : List α) (i : Nat) (x : α) (h : i ≤ l.length) : (insAt l i x).length = l.length + 1 := by
  unfold insAt; simp only [List.length_append, List.length_take, List.length_drop, List.length_cons, List.length_nil]; omega
theorem insAt_get {α : Type} (l : List α) (i : Nat) (x : α) (h : i ≤ l.length) (j : Nat) : (insAt l i x)[j]? = if j < i then l[j]? else if j = i then some x else l[j - 1]? := by
  unfold insAt
  have h1 : (l.take i).length = i := by rw [List.length_take]; omega
  rw [List.append_assoc]
  by_cases a : j < i
  · rw [if_pos a, List.getElem?_append_left (by omega), List.getElem?_take, if_pos a]
  · rw [if_neg a, List.getElem?_append_right (by omega), h1]
    by_cases b : j = i
    · rw [if_pos b, b, Nat.sub_self]; rfl
    · rw [if_neg b, List.getElem?_append_right (by simp; omega), List.getElem?_drop]
      congr 1
      simp; omega
theorem insAt_map {α β : Type} (f : α → β) (l : List α) (i : Nat) (x : α) : (insAt l i x).map f = insAt (l.map f) i (f x) := by
  unfold insAt; simp [List.map_take, List.map_drop]
section
variable {Γ : Ctx} {σ : St} {ρ : Nat → Value} {a : Act} {w : World}
theorem ok_ins (I : Iv Γ σ ρ a w) {o : Oper} {f : FuncId} {fn : Func} {x y z : Operand} {ts : Array TypeId} {T T2 k k2 d s by_ p : Nat} {l : List SV} {el : SV} {K : St → Prop}
    (ho : o.op = .call { callee := .value (.func f), args := #[x, y, z], argTypes := ts }) (hd : o.dst = some d) (hdn : d < Γ.n) (hf : Γ.P.funcs[f]? = some fn) (hname : (fn.name == "runtime.NumGoroutine") = false) (hb : fn.body.isNone = false)
    (hx : σ.ev x = .own k) (hk : σ.h.lookup k = some (.row s T l)) (hy : σ.ev y = .sv (.raw (.int .i64 (p : Int)))) (hz : σ.ev z = .own k2) (hk2 : σ.h.lookup k2 = some (.row s T2 [el])) (hkk : k ≠ k2) (hp : p ≤ l.length)
    (h1 : ∀ q ∈ l, (∃ c, q = .agg c) ∨ q.one = true) (h1e : (∃ c, el = .agg c) ∨ el.one = true) (hbig : (l.length + 1) * by_ ≤ 140737488355328) (h63 : l.length + 1 ≤ maxLen) (hfr : σ.free d = true) (hi : Γ.inn d = none) (hc : InsC Γ.P f s T by_)
    (hK : K ⟨(d, .own d) :: σ.t, ins d (.row s T (insAt l p el)) (ins d (.row s T l) (dropH k σ.h))⟩) : XOk Γ a w o False K := by
  have hX : a.eval x = ρ k := by have := I.ev x; rw [hx] at this; exact this
  have hZ : a.eval z = ρ k2 := by have := I.ev z; rw [hz] at this; exact this
  have hY : a.eval y = .int .i64 (p : Int) := by have := I.ev y; rw [hy] at this; exact rep_raw' this
  have hrun : (execOp a.eval o).run Γ.P w = .ok (.enter f #[ρ k, .int .i64 (p : Int), ρ k2]) w := by
    have hF : a.eval (.func f) = .func (.func f) #[] #[] := rfl
    simp [execOp, ho, resolve, hF, Deferred.ofValue, invoke, run_callFunc hf hname hb, hX, hY, hZ]
  obtain ⟨f1, f2⟩ := free_rekey (k := k) (e := .row s T l) hfr
  have I2 := I.rekey hfr hk hi
  have hl2 : (ins d (.row s T l) (dropH k σ.h)).lookup d = some (.row s T l) := by rw [lookup_ins, if_pos rfl]
  obtain ⟨hs0, xs, vals, hown, hrep⟩ := I.ent k _ hk
  obtain ⟨_, xs2, vals2, hown2, hrep2⟩ := I.ent k2 _ hk2
  have hx1 := row_one hs0 hown.1 hrep h1
  have hx2 := row_one hs0 hown2.1 hrep2 (fun q hq => by simp at hq; subst hq; exact h1e)
  obtain ⟨e1, e2, e3⟩ := hrep2 0 el rfl
  rcases hown2.2 with ⟨_, h⟩ | ⟨vb, vc, cv, hv2, _, hg2, hcap2, hcm2, hcs2, htk2⟩
  · simp at h
  · have hbk2 : blk (ρ k2) = some vb := by rw [hv2]; rfl
    have hxl2 : xs2.length = s := by have := hown2.1; simpa using this
    have hne : blk (ρ k) ≠ some vb := fun h => hkk (I.sep k k2 _ _ vb hk hk2 h hbk2)
    unfold XOk oN
    rw [hrun, hv2]
    refine (hc w (ρ k) l.length xs p vb vc cv T2 xs2 hown hx1 hp hbig h63 hg2 (by rw [← htk2]; simp) hxl2 hx2 hne).mono ?_
    rintro e w' ⟨v', he, hrow, hgr, hnew⟩
    have hkp : Kp w (Own Γ σ.h ρ) w' (Own Γ (ins d (.row s T (insAt l p el)) (ins d (.row s T l) (dropH k σ.h))) (upd (upd ρ d (ρ k)) d v')) := by
      intro b hlt hno
      refine ⟨hgr.block b hlt fun hbk => hno (.inr ⟨k, _, hk, hbk.symm⟩), ?_⟩
      rintro (hO | ⟨k1, e1, hk1, hb1⟩)
      · exact hno (.inl hO)
      · rw [lookup_ins] at hk1
        by_cases hq : k1 = d
        · subst hq
          rw [upd_at] at hb1
          rcases (hnew b hb1).2 with h | h
          · omega
          · exact hno (.inr ⟨k, _, hk, h⟩)
        · rw [if_neg hq, lookup_ins, if_neg hq] at hk1
          rw [upd_ne _ _ hq, upd_ne _ _ hq] at hb1
          exact hno (.inr ⟨k1, e1, (dropH_lookup hk1).1, hb1⟩)
    refine ⟨_, he, _, hK, ⟨upd (upd ρ d (ρ k)) d v', ?_⟩, fun h => h.elim⟩
    have hxl : xs.length = l.length * s := hown.1
    have hps : p * s ≤ l.length * s := Nat.mul_le_mul_right s hp
    have I3 := I2.heap (t' := σ.t) (k := d) (e := .row s T (insAt l p el)) (v' := v') (w' := w') (fun t lv h => .inl h)
      (.inr ⟨f1, f2⟩) ⟨hgr.os, hgr.tape, hgr.output, hgr.size⟩ (fun b hb hne2 => hgr.block b hb fun h => hne2 _ hl2 (by rw [upd_at]; exact h.symm))
      (fun b hb => ⟨(hnew b hb).1, (hnew b hb).2.imp id fun h => ⟨_, hl2, by rw [upd_at]; exact h⟩⟩)
      (fun v h => by rw [hi] at h; cases h)
      ⟨hs0, xs.take (p * s) ++ xs2 ++ xs.drop (p * s), fun j => if j < p then vals j else if j = p then vals2 0 else vals (j - 1), by rw [upd_at, insAt_len _ _ _ hp]; exact hrow, fun j q hj => by
        rw [insAt_get _ _ _ hp] at hj
        have ht : (xs.take (p * s)).length = p * s := by rw [List.length_take]; omega
        by_cases c1 : j < p
        · simp only [if_pos c1] at hj ⊢
          obtain ⟨r1, r2, r3⟩ := hrep j q hj
          refine ⟨r1.kp hkp, r2, fun m u hu => ?_⟩
          have hm : m < s := by have := (Array.getElem?_eq_some_iff.1 hu).1; omega
          have h4 := r3 m u hu
          have h5 : (j + 1) * s ≤ p * s := Nat.mul_le_mul_right s c1
          rw [Nat.add_mul, Nat.one_mul] at h5
          rw [List.append_assoc, List.getElem?_append_left (by omega), List.getElem?_take, if_pos (by omega)]; exact h4
        · by_cases c2 : j = p
          · subst c2
            simp only [if_neg c1, if_true, Option.some.injEq] at hj ⊢
            subst hj
            refine ⟨e1.kp hkp, e2, fun m u hu => ?_⟩
            have hm : m < s := by have := (Array.getElem?_eq_some_iff.1 hu).1; omega
            have h4 := e3 m u hu
            rw [Nat.zero_mul, Nat.zero_add] at h4
            rw [List.append_assoc, List.getElem?_append_right (by omega), ht, List.getElem?_append_left (by omega)]
            rw [show j * s + m - j * s = m by omega]; exact h4
          · simp only [if_neg c1, if_neg c2] at hj ⊢
            obtain ⟨r1, r2, r3⟩ := hrep (j - 1) q hj
            refine ⟨r1.kp hkp, r2, fun m u hu => ?_⟩
            have h4 := r3 m u hu
            have h5 : (p + 1) * s ≤ j * s := Nat.mul_le_mul_right s (by omega)
            rw [Nat.add_mul, Nat.one_mul] at h5
            have h6 : j * s = (j - 1) * s + s := by rw [← Nat.succ_mul]; congr 1; omega
            rw [List.getElem?_append_right (by rw [List.length_append, ht, hxl2]; omega), List.length_append, ht, hxl2, List.getElem?_drop]
            rw [show p * s + (j * s + m - (p * s + s)) = (j - 1) * s + m by omega]; exact h4⟩
    rw [hd]
    exact I3.put (d := some d) (lv := .own d) (v := v') (by simpa using hdn) (upd_at _ _ _).symm
end
section
variable {Γ : Ctx} {ops : Array Oper} {l : List (Oper × Nat)} {t : List (Nat × LV)} {h : List (Nat × Ent)} {K : St → Prop} {c d ty : Nat} {ps : String} {af : Array Edge} {x y z : Operand}
/-- One element into the midst of a row of ours. -/
theorem q_ins {f k k2 s T T2 by_ p : Nat} {ts : Array Nat} {r : List SV} {el : SV} (hc : InsC Γ.P f s T by_) (hcl : Calb Γ.P f) (hx : St.ev ⟨t, h⟩ x = .own k) (hh : h.lookup k = some (.row s T r)) (hy : St.ev ⟨t, h⟩ y = .sv (.raw (.int .i64 (p : Int)))) (hz : St.ev ⟨t, h⟩ z = .own k2) (hk2 : h.lookup k2 = some (.row s T2 [el])) (hkk : k ≠ k2) (hp : p ≤ r.length)
    (h1 : ∀ q ∈ r, (∃ c, q = .agg c) ∨ q.one = true) (h1e : (∃ c, el = .agg c) ∨ el.one = true) (hbig : (r.length + 1) * by_ ≤ 140737488355328) (h63 : r.length + 1 ≤ maxLen) (hf : St.free ⟨t, h⟩ d = true) (hi : Γ.inn d = none)
    (hk : RunL Γ ops l ⟨(d, .own d) :: t, ins d (.row s T (insAt r p el)) (ins d (.row s T r) (dropH k h))⟩ K) :
    RunL Γ ops ((⟨some d, .call { callee := .value (.func f), args := #[x, y, z], argTypes := ts }, ty, ps, af, none⟩, 2) :: l) ⟨t, h⟩ K :=
  let ⟨_, hf', hname, hb⟩ := hcl
  run_x (ext := False) rfl (by omega) (fun h => (h rfl).elim) fun _ _ _ I hd => ok_ins I rfl rfl (by simpa [dstOk] using hd) hf' hname hb hx hh hy hz hk2 hkk hp h1 h1e hbig h63 hf hi hc hk
end
end Go.Abs

/- A function that hands back a row of its own, of copies that stand apart. No condition. -/
namespace Go.Abs
open Go Go.RowKit Go.Eager
set_option linter.unusedVariables false
/-- A function that hands back a row of its own, of copies that are new and stand apart. -/
def PFnOT (P : Program) (f : FuncId) (args : List SV) (n T : Nat) (ss : List SV) : Prop :=
  ∀ (w : World) (O : Nat → Prop) (vs : Array Value), (∀ b, O b → b < w.heap.size) → vs.size = args.length →
    (∀ (i : Nat) (s : SV) (u : Value), args[i]? = some s → vs[i]? = some u → Rep w O s u) →
    Calls P f vs w fun e w' => ∃ v rs, e = .returned v ∧ Ext w w' ∧ 0 < n ∧ Cps w rs ss ∧ ∃ (xs : List Value) (vals : Nat → Value), w'.ownsRow w.heap.size T n v rs.length xs ∧
      ∀ (i : Nat) (s : SV), rs[i]? = some s → Rep w' (fun b => O b ∨ blk v = some b) s (vals i) ∧ (vals i).cells.size = n ∧ ∀ (j : Nat) (u : Value), (vals i).cells[j]? = some u → xs[i * n + j]? = some u
def endOT (w0 : World) (t n T : Nat) (ss : List SV) : Exit → St → Prop
  | .normal, σ | .ret, σ => ∃ k rs, σ.ev (.tmp t) = .own k ∧ σ.h.lookup k = some (.row n T rs) ∧ Cps w0 rs ss
  | _, _ => False
theorem fnot_ok_at {P : Program} {f : FuncId} {fn : Func} {c : Code} {args : List SV} {t n T : Nat} {ss : List SV} (hz : 0 < n) (hf : P.funcs[f]? = some fn) (hb : fn.body = some c) (hrs : fn.results = #[.tmp t]) (hn : args.length ≤ fn.ntmps)
    (w : World) (O : Nat → Prop) (h : Ok { P := P, w0 := w, O := O, M := fun _ => False, inn := fun _ => none, n := fn.ntmps } c ⟨args.zipIdx.map fun p => (p.2, .sv p.1), []⟩ (endOT w t n T ss)) (vs : Array Value) (hO : ∀ b, O b → b < w.heap.size) (hvs : vs.size = args.length)
    (hrep : ∀ (i : Nat) (s : SV) (u : Value), args[i]? = some s → vs[i]? = some u → Rep w O s u) : Calls P f vs w fun e w' => ∃ v rs, e = .returned v ∧ Ext w w' ∧ 0 < n ∧ Cps w rs ss ∧ ∃ (xs : List Value) (vals : Nat → Value), w'.ownsRow w.heap.size T n v rs.length xs ∧
      ∀ (i : Nat) (s : SV), rs[i]? = some s → Rep w' (fun b => O b ∨ blk v = some b) s (vals i) ∧ (vals i).cells.size = n ∧ ∀ (j : Nat) (u : Value), (vals i).cells[j]? = some u → xs[i * n + j]? = some u := by
  refine calls_of_wp hf hb ?_
  let Γ : Ctx := { P := P, w0 := w, O := O, M := fun _ => False, inn := fun _ => none, n := fn.ntmps }
  have hlk : ∀ (l : List SV) (k t : Nat) (lv : LV), ((l.zipIdx k).map fun p => (p.2, LV.sv p.1)).lookup t = some lv → ∃ s, l[t - k]? = some s ∧ lv = .sv s ∧ k ≤ t := by
    intro l
    induction l with
    | nil => intro k t lv h; simp at h
    | cons s l ih =>
      intro k t lv h
      simp only [List.zipIdx_cons, List.map_cons, List.lookup_cons] at h
      by_cases ht : t = k
      · subst ht; simp at h; exact ⟨s, by simp, h.symm, Nat.le_refl _⟩
      · have : (t == k) = false := by simpa using ht
        simp only [this] at h
        obtain ⟨s', h1, h2, h3⟩ := ih (k + 1) t lv h
        refine ⟨s', ?_, h2, by omega⟩
        rw [show t - k = (t - (k + 1)) + 1 by omega]; simpa using h1
  have I : Inv Γ ⟨args.zipIdx.map fun p => (p.2, .sv p.1), []⟩ { tmps := vs ++ Array.replicate (fn.ntmps - vs.size) undef, defers := [] } w := by
    refine ⟨fun _ => undef, ⟨rfl, by simp [Γ]; omega, ⟨rfl, rfl, rfl, Nat.le_refl _, fun _ _ _ => rfl⟩, ?_, ?_, ?_, ?_, fun b hb => ⟨hO b hb, fun h => h⟩, ?_⟩⟩
    · intro t lv ht
      obtain ⟨s, h1, rfl, _⟩ := hlk args 0 t lv ht
      have hlt : t < vs.size := by rw [hvs]; simpa using (List.getElem?_eq_some_iff.1 h1).1
      have hu : vs[t]? = some vs[t] := Array.getElem?_eq_getElem hlt
      have h2 := hrep t s _ (by simpa using h1) hu
      have h3 : (vs ++ Array.replicate (fn.ntmps - vs.size) undef).getD t undef = vs[t] := by
        rw [Array.getD_eq_getD_getElem?, Array.getElem?_append_left hlt, hu]; rfl
      show Rep w _ s _
      rw [h3]
      exact Rep.kp h2 fun b _ hno => ⟨rfl, fun h => by
        rcases h with h | ⟨k, e, hk, _⟩
        · exact hno h
        · simp at hk⟩
    · intro k e hk; simp at hk
    · intro k e b hk; simp at hk
    · intro k k' e e' b hk; simp at hk
    · intro k v hv; simp [Γ] at hv
  refine wp_mono (h _ w I) ?_
  rintro e a' w' ⟨σ', hq, ρ, J⟩
  have hres : (results fn a'.tmps).run P w' = .ok (a'.tmps.getD t undef) w' := by
    unfold results
    rw [hrs]
    simp
  have fin : (∃ k rs, σ'.ev (.tmp t) = .own k ∧ σ'.h.lookup k = some (.row n T rs) ∧ Cps w rs ss) →
      a'.defers = [] ∧ ∃ v, (results fn a'.tmps).run P w' = .ok v w' ∧ ∃ v' rs, Ending.returned v = .returned v' ∧ Ext w w' ∧ 0 < n ∧ Cps w rs ss ∧ ∃ (xs : List Value) (vals : Nat → Value), w'.ownsRow w.heap.size T n v' rs.length xs ∧
      ∀ (i : Nat) (s : SV), rs[i]? = some s → Rep w' (fun b => O b ∨ blk v' = some b) s (vals i) ∧ (vals i).cells.size = n ∧ ∀ (j : Nat) (u : Value), (vals i).cells[j]? = some u → xs[i * n + j]? = some u := by
    have hext : Ext w w' := ⟨J.frm.os, J.frm.tape, J.frm.output, J.frm.size, fun b hb => J.frm.block b hb (fun h => h)⟩
    rintro ⟨k, rs, h1, h2, h5⟩
    have hv : a'.tmps.getD t undef = ρ k := by have := J.ev (.tmp t); rw [h1] at this; exact this
    obtain ⟨hz', xs, vals, hown, hel⟩ := J.ent k _ h2
    refine ⟨J.dfr, _, hres, _, rs, rfl, hext, hz, h5, xs, vals, ?_, fun i s hi => ?_⟩
    · rw [hv]
      refine ⟨hown.1, ?_⟩
      rcases hown.2 with h | ⟨g, cap, cur, e1, _, e3⟩
      · exact .inl h
      · refine .inr ⟨g, cap, cur, e1, ?_, e3⟩
        rcases (J.new k _ g h2 (by rw [e1]; rfl)).1 with h | h
        · exact h
        · exact h.elim
    · obtain ⟨r1, r2, r3⟩ := hel i s hi
      refine ⟨r1.kp (fun b hb hno => ⟨rfl, ?_⟩), r2, r3⟩
      rintro (h | h)
      · exact hno (.inl h)
      · rw [hv] at h; exact hno (.inr ⟨k, _, h2, h⟩)
  cases e with
  | normal => exact fin hq
  | ret => exact fin hq
  | _ => exact hq.elim
theorem fnot_ok {P : Program} {f : FuncId} {fn : Func} {c : Code} {args : List SV} {t n T m : Nat} {ss : List SV} {t0 : List (Nat × LV)} (hz : 0 < n) (hf : P.funcs[f]? = some fn) (hb : fn.body = some c) (hrs : fn.results = #[.tmp t]) (hnt : fn.ntmps = m) (hn : args.length ≤ m)
    (ht : (args.zipIdx.map fun p => (p.2, LV.sv p.1)) = t0) (h : ∀ w0 O, Ok (ctx P w0 O m) c ⟨t0, []⟩ (endOT w0 t n T ss)) : PFnOT P f args n T ss := by
  subst hnt ht
  intro w O
  exact fnot_ok_at hz hf hb hrs hn w O (h w O)
section
variable {Γ : Ctx} {σ : St} {ρ : Nat → Value} {a : Act} {w : World}
theorem ok_callot (I : Iv Γ σ ρ a w) {o : Oper} {f : FuncId} {fn : Func} {args : Array Operand} {ts : Array TypeId} {sa : List SV} {n T d : Nat} {ss : List SV} {K : St → Prop}
    (ho : o.op = .call { callee := .value (.func f), args := args, argTypes := ts }) (hd : o.dst = some d) (hdn : d < Γ.n) (hf : Γ.P.funcs[f]? = some fn) (hname : (fn.name == "runtime.NumGoroutine") = false) (hb : fn.body.isNone = false)
    (ha : ArgsOk (args.toList.map σ.ev) sa) (hfr : σ.free d = true) (hi : Γ.inn d = none) (hc : PFnOT Γ.P f sa n T ss) (hk : ∀ rs, Cps Γ.w0 rs ss → (∀ r ∈ rs, Apart σ.t σ.h r) → K ⟨(d, .own d) :: σ.t, ins d (.row n T rs) σ.h⟩) : XOk Γ a w o True K := by
  have hrun : (execOp a.eval o).run Γ.P w = .ok (.enter f (args.map a.eval)) w := by
    have hY : a.eval (.func f) = .func (.func f) #[] #[] := rfl
    simp [execOp, ho, resolve, hY, Deferred.ofValue, invoke, run_callFunc hf hname hb]
  have hsz : (args.map a.eval).size = sa.length := by have := argsOk_len ha; simp at this; simp [this]
  obtain ⟨f1, f2, f3⟩ := free_spec hfr
  unfold XOk oN
  rw [hrun]
  refine (hc w (Own Γ σ.h ρ) (args.map a.eval) (fun b hb => blk_lt I hb) hsz fun i s u hi' hu => ?_).mono ?_
  · obtain ⟨lv, h3, hok⟩ := argsOk_get ha hi'
    rw [Array.getElem?_map] at hu
    rw [List.getElem?_map] at h3
    cases hx : args[i]? with
    | none => simp [hx] at hu
    | some x =>
      have hx' : args.toList[i]? = some x := by simpa using hx
      simp only [hx', Option.map_some, Option.some.injEq] at h3
      simp only [hx, Option.map_some, Option.some.injEq] at hu
      subst hu h3
      exact hok.rep (I.ev x)
  · rintro e w' ⟨v, rs, he, hx, hn, hC, xs, vals, hrow, hel⟩
    have I' : Iv Γ ⟨σ.t, ins d (.row n T rs) σ.h⟩ (upd ρ d v) a w' := I.heap (fun t lv h => .inl h) (.inr ⟨f1, fun k1 e1 _ => f2 k1 e1⟩) ⟨hx.os, hx.tape, hx.output, hx.size⟩ (fun b hb _ => hx.block b hb)
      (fun b hb => ⟨(owns_blk hrow hb).2, .inl (owns_blk hrow hb).1⟩) (by rw [hi]; intro v h; cases h)
      ⟨hn, xs, vals, by rw [upd_at]; exact owns_zero hrow, fun i s his => by
        obtain ⟨h1, h2, h3⟩ := hel i s his
        refine ⟨Rep.kp h1 (fun b hb hno => ⟨rfl, ?_⟩), h2, h3⟩
        rintro (hO | ⟨k1, e1, hk1, hb1⟩)
        · exact hno (.inl (.inl hO))
        · rw [lookup_ins] at hk1
          by_cases hkk : k1 = d
          · subst hkk; rw [upd_at] at hb1; exact hno (.inr hb1)
          · rw [if_neg hkk] at hk1; rw [upd_ne _ _ hkk] at hb1; exact hno (.inl (.inr ⟨k1, e1, hk1, hb1⟩))⟩
    refine ⟨v, he, _, hk rs ⟨hC.len, hC.gd, hC.ap, fun r hr b hb => Nat.le_trans I.frm.size (hC.nw r hr b hb)⟩ (fun r hr => apart_of I (hC.nw r hr)), ⟨upd ρ d v, ?_⟩, fun _ => hx⟩
    rw [hd]
    exact I'.put (d := some d) (lv := .own d) (v := v) (by simpa using hdn) (upd_at _ _ _).symm
end
section
variable {Γ : Ctx} {ops : Array Oper} {l : List (Oper × Nat)} {t : List (Nat × LV)} {h : List (Nat × Ent)} {K : St → Prop} {c d ty : Nat} {ps : String} {af : Array Edge} {x y : Operand}
theorem q_callot {f : Nat} {args : Array Operand} {ts : Array Nat} {sa : List SV} {n T : Nat} {ss : List SV} (hc : PFnOT Γ.P f sa n T ss) (hcl : Calb Γ.P f)
    (ha : ArgsOk (args.toList.map (St.ev ⟨t, h⟩)) sa) (hf : St.free ⟨t, h⟩ d = true) (hi : Γ.inn d = none) (hk : ∀ rs, Cps Γ.w0 rs ss → (∀ r ∈ rs, Apart t h r) → RunL Γ ops l ⟨(d, .own d) :: t, ins d (.row n T rs) h⟩ K) :
    RunL Γ ops ((⟨some d, .call { callee := .value (.func f), args := args, argTypes := ts }, ty, ps, af, none⟩, c + 2) :: l) ⟨t, h⟩ K := by
  obtain ⟨_, hf', hname, hb⟩ := hcl
  intro hd
  exact (run_x (K := K) (ext := True) rfl (by omega) (fun _ => trivial) fun _ _ _ I hd' => ok_callot (K := fun σ => RunL Γ ops l σ K) I rfl rfl (by simpa [dstOk] using hd') hf' hname hb ha hf hi hc hk) hd
end
/-- Copies, read as values. -/
theorem rep_sl_gd {w : World} {O : Nat → Prop} {n : Nat} {rs ss : List SV} {v : Value} (hl : rs.length = ss.length) (hg : ∀ (i : Nat) (r s : SV), rs[i]? = some r → ss[i]? = some s → Gd r s) (h : Rep w O (.sl n rs) v) : Rep w O (.sl n ss) v := by
  generalize hq : SV.sl n rs = q at h
  cases h with
  | nil sz a c =>
    injection hq with h1 h2
    subst h1 h2
    have : ss = [] := List.eq_nil_of_length_eq_zero (by simpa using hl.symm)
    subst this
    exact .nil _ a c
  | sl sz l b off c vals hb hpos hc hz q1 q2 q3 =>
    injection hq with h1 h2
    subst h1 h2
    rw [hl]
    exact .sl n ss b off c vals hb (by omega) (by omega) hz (fun i s hs => by
      have hlt : i < rs.length := by rw [hl]; exact (List.getElem?_eq_some_iff.1 hs).1
      exact (hg i _ s (List.getElem?_eq_getElem hlt) hs).rep (q1 i _ (List.getElem?_eq_getElem hlt))) (fun i hi => q2 i (by omega)) (fun i hi => q3 i (by omega))
  | _ => cases hq
theorem PFn.weakI {P : Program} {f : Nat} {la bs : List SV} {r : SV} (h : PFn P f la r) (hl : bs.length = la.length) (hw : ∀ (i : Nat) (s : SV), la[i]? = some s → ∃ s', bs[i]? = some s' ∧ ∀ w O v, Rep w O s' v → Rep w O s v) : PFn P f bs r := by
  intro w O vs hO hn hv
  refine h w O vs hO (by rw [hn, hl]) fun i s u hs hu => ?_
  obtain ⟨s', h1, h2⟩ := hw i s hs
  exact h2 w O u (hv i s' u h1 hu)
/-- A function whose first argument is a row: also at copies. -/
theorem PFn.row1 {P : Program} {f n : Nat} {rs ss rest : List SV} {r : SV} (h : PFn P f (.sl n ss :: rest) r) (hl : rs.length = ss.length) (hg : ∀ (i : Nat) (r s : SV), rs[i]? = some r → ss[i]? = some s → Gd r s) : PFn P f (.sl n rs :: rest) r :=
  PFn.weakI h rfl fun i s hs => by
    cases i with
    | zero => simp at hs; subst hs; exact ⟨_, rfl, fun _ _ _ h => rep_sl_gd hl hg h⟩
    | succ i => exact ⟨s, by simpa using hs, fun _ _ _ h => h⟩
/-- One copy in the place of another. -/
theorem Cps.set {w0 : World} {rs ss : List SV} {i : Nat} {r s : SV} (h : Cps w0 rs ss) (hg : Gd r s) (ha : ∀ (j : Nat) (x : SV), j ≠ i → rs[j]? = some x → ∀ b, Zn b x → ¬ Zn b r) (hn : ∀ b, Zn b r → w0.heap.size ≤ b) : Cps w0 (rs.set i r) (ss.set i s) := by
  have key : ∀ (j : Nat) (x : SV), (rs.set i r)[j]? = some x → (j = i ∧ x = r) ∨ (j ≠ i ∧ rs[j]? = some x) := fun j x hx => set_getG hx
  refine ⟨by rw [List.length_set, List.length_set]; exact h.len, fun j x y hx hy => ?_, fun j1 j2 b x1 x2 h1 h2 z1 z2 => ?_, fun x hx b hb => ?_⟩
  · rcases key j x hx with ⟨rfl, rfl⟩ | ⟨h1, h2⟩
    · rcases set_getG hy with ⟨_, rfl⟩ | ⟨h3, _⟩
      · exact hg
      · exact absurd rfl h3
    · rcases set_getG hy with ⟨h3, _⟩ | ⟨_, h4⟩
      · exact absurd h3 h1
      · exact h.gd j x y h2 h4
  · rcases key j1 x1 h1 with ⟨rfl, rfl⟩ | ⟨a1, a2⟩
    · rcases key j2 x2 h2 with ⟨rfl, _⟩ | ⟨b1, b2⟩
      · rfl
      · exact absurd z1 (ha j2 x2 b1 b2 b z2)
    · rcases key j2 x2 h2 with ⟨rfl, rfl⟩ | ⟨b1, b2⟩
      · exact absurd z2 (ha j1 x1 a1 a2 b z1)
      · exact h.ap j1 j2 b x1 x2 a2 b2 z1 z2
  · obtain ⟨j, hj⟩ := List.getElem?_of_mem hx
    rcases key j x hj with ⟨_, rfl⟩ | ⟨_, h2⟩
    · exact hn b hb
    · exact h.nw x (List.mem_of_getElem? h2) b hb
/-- One copy more, in the midst. -/
theorem Cps.insAt {w0 : World} {rs ss : List SV} {i : Nat} {r s : SV} (h : Cps w0 rs ss) (hi : i ≤ rs.length) (hg : Gd r s) (ha : ∀ x ∈ rs, ∀ b, Zn b x → ¬ Zn b r) (hn : ∀ b, Zn b r → w0.heap.size ≤ b) : Cps w0 (Go.Abs.insAt rs i r) (Go.Abs.insAt ss i s) := by
  have hi2 : i ≤ ss.length := by rw [← h.len]; exact hi
  have key : ∀ (j : Nat) (x : SV), (Go.Abs.insAt rs i r)[j]? = some x → (j = i ∧ x = r) ∨ ∃ m, rs[m]? = some x ∧ ((j < i ∧ m = j) ∨ (i < j ∧ m = j - 1)) := by
    intro j x hx
    rw [insAt_get _ _ _ hi] at hx
    split at hx
    · exact .inr ⟨j, hx, .inl ⟨by assumption, rfl⟩⟩
    · split at hx
      · exact .inl ⟨by assumption, by simpa using hx.symm⟩
      · exact .inr ⟨j - 1, hx, .inr ⟨by omega, rfl⟩⟩
  refine ⟨by rw [insAt_len _ _ _ hi, insAt_len _ _ _ hi2, h.len], fun j x y hx hy => ?_, fun j1 j2 b x1 x2 h1 h2 z1 z2 => ?_, fun x hx b hb => ?_⟩
  · rw [insAt_get _ _ _ hi] at hx
    rw [insAt_get _ _ _ hi2] at hy
    split at hx
    · rename_i c1
      rw [if_pos c1] at hy
      exact h.gd _ x y hx hy
    · rename_i c1
      rw [if_neg c1] at hy
      split at hx
      · rename_i c2
        rw [if_pos c2] at hy
        cases hx; cases hy; exact hg
      · rename_i c2
        rw [if_neg c2] at hy
        exact h.gd _ x y hx hy
  · rcases key j1 x1 h1 with ⟨e1, rfl⟩ | ⟨m1, a1, a2⟩
    · rcases key j2 x2 h2 with ⟨e2, _⟩ | ⟨m2, b1, b2⟩
      · omega
      · exact absurd z1 (ha x2 (List.mem_of_getElem? b1) b z2)
    · rcases key j2 x2 h2 with ⟨e2, rfl⟩ | ⟨m2, b1, b2⟩
      · exact absurd z2 (ha x1 (List.mem_of_getElem? a1) b z1)
      · have := h.ap m1 m2 b x1 x2 a1 b1 z1 z2
        omega
  · obtain ⟨j, hj⟩ := List.getElem?_of_mem hx
    rcases key j x hj with ⟨_, rfl⟩ | ⟨m, h2, _⟩
    · exact hn b hb
    · exact h.nw x (List.mem_of_getElem? h2) b hb
/-- A place made, a copy of what stands behind, and the place filled: one element in the midst. -/
theorem cpy_ins {α : Type} (l : List α) (i : Nat) (z x : α) (hi : i ≤ l.length) : (cpy (l ++ [z]) (i + 1) i).set i x = insAt l i x := by
  apply List.ext_getElem?
  intro j
  have hlen : (l ++ [z]).length = l.length + 1 := by simp
  have hm : (((l ++ [z]).drop i).take ((l ++ [z]).length - (i + 1))).length = l.length - i := by rw [List.length_take, List.length_drop, hlen]; omega
  rw [List.getElem?_set, insAt_get _ _ _ hi]
  by_cases h1 : i = j
  · subst h1
    rw [if_pos rfl, if_pos (by rw [cpy_len _ _ _ (by omega)]; omega), if_neg (by omega), if_pos rfl]
  · rw [if_neg h1, cpy_get _ _ _ (by omega), hm]
    by_cases h2 : j < i
    · rw [if_neg (by omega), if_pos h2, List.getElem?_append_left (by omega)]
    · rw [if_neg h2, if_neg (fun h : j = i => h1 h.symm)]
      by_cases h3 : j < i + 1 + (l.length - i)
      · rw [if_pos ⟨by omega, h3⟩, show i + (j - (i + 1)) = j - 1 by omega]
        rw [List.getElem?_append_left (by omega)]
      · rw [if_neg (by omega), List.getElem?_eq_none (by omega), List.getElem?_eq_none (by omega)]
end Go.Abs

/- A copy that stands apart, made a row of ours. No condition. -/
namespace Go.Abs
open Go Go.RowKit Go.Eager
set_option linter.unusedVariables false
set_option linter.unusedSimpArgs false
/-- A value whose rows all stand in zones. -/
inductive Zd : SV → Prop
  | raw (u : Value) : Zd (.raw u)
  | tr (Z : Nat → Prop) (s : SV) (v : Value) : Zd (.tr Z s v)
  | agg (l : List SV) (h : ∀ s ∈ l, Zd s) : Zd (.agg l)
  | tup (l : List SV) (h : ∀ s ∈ l, Zd s) : Zd (.tup l)
theorem Zd.rep {w : World} {O O' : Nat → Prop} {r : SV} (z : Zd r) : ∀ {v : Value}, Rep w O r v → (∀ b, Zn b r → ¬ O' b) → Rep w O' r v := by
  induction z with
  | raw u => intro v h _; cases h; exact .raw _
  | tr Z s u => intro v h hn; cases h with | tr _ _ _ h1 h2 => exact .tr Z s _ h1 fun b hb => ⟨(h2 b hb).1, hn b (.tr Z s _ hb)⟩
  | agg l _ ih =>
    intro v h hn
    cases h with
    | agg _ vs h0 h1 h2 => exact .agg l vs h0 h1 fun i s u hs hu => ih s (List.mem_of_getElem? hs) (h2 i s u hs hu) fun b hb => hn b (.agg l s (List.mem_of_getElem? hs) hb)
  | tup l _ ih =>
    intro v h hn
    cases h with
    | tup _ vs h0 h2 => exact .tup l vs h0 fun i s u hs hu => ih s (List.mem_of_getElem? hs) (h2 i s u hs hu) fun b hb => hn b (.tup l s (List.mem_of_getElem? hs) hb)
/-- It stands aside of the zone. -/
def AsL (Z : Nat → Prop) : LV → Prop
  | .sv s => Zd s ∧ ∀ b, Z b → ¬ Zn b s
  | .av Z' _ => ∀ b, Z b → Z' b
  | _ => True
def AsE (Z : Nat → Prop) : Ent → Prop
  | .box c => ∀ lv ∈ c, AsL Z lv
  | .row _ _ rs => ∀ r ∈ rs, Zd r ∧ ∀ b, Z b → ¬ Zn b r
  | .rowl _ c => ∀ lv ∈ c, AsL Z lv
  | .map _ _ => True
def AsT (Z : Nat → Prop) : List (Nat × LV) → Prop
  | [] => True
  | (_, lv) :: t => AsL Z lv ∧ AsT Z t
def AsH (Z : Nat → Prop) : List (Nat × Ent) → Prop
  | [] => True
  | (_, e) :: h => AsE Z e ∧ AsH Z h
theorem asT_get {Z : Nat → Prop} {k : Nat} {lv : LV} : ∀ {t : List (Nat × LV)}, AsT Z t → t.lookup k = some lv → AsL Z lv
  | [], _, h => by simp at h
  | (a, x) :: t, ⟨h1, h2⟩, h => by
    rw [List.lookup_cons] at h
    cases hk : (k == a) with
    | true => simp only [hk, Option.some.injEq] at h; exact h ▸ h1
    | false => simp only [hk] at h; exact asT_get h2 h
theorem asH_get {Z : Nat → Prop} {k : Nat} {e : Ent} : ∀ {t : List (Nat × Ent)}, AsH Z t → t.lookup k = some e → AsE Z e
  | [], _, h => by simp at h
  | (a, x) :: t, ⟨h1, h2⟩, h => by
    rw [List.lookup_cons] at h
    cases hk : (k == a) with
    | true => simp only [hk, Option.some.injEq] at h; exact h ▸ h1
    | false => simp only [hk] at h; exact asH_get h2 h
theorem asL_raw (Z : Nat → Prop) (u : Value) : AsL Z (.sv (.raw u)) := ⟨.raw u, fun b _ h => zn_raw h⟩
theorem asL_tr {Z Z' : Nat → Prop} {s : SV} {v : Value} (h : ∀ b, Z b → ¬ Z' b) : AsL Z (.sv (.tr Z' s v)) := ⟨.tr _ _ _, fun b hb hn => h b hb (zn_tr hn)⟩
section
variable {Γ : Ctx} {σ : St} {ρ : Nat → Value} {a : Act} {w : World}
/-- **A tree, made a row of ours.** -/
theorem Iv.otr (I : Iv Γ σ ρ a w) {d n : Nat} {Z : Nat → Prop} {ss : List SV} {v : Value} (h0 : ss ≠ []) (hT : Tree w Z (.sl n ss) v) (hZ : ∀ b, Z b → b < w.heap.size ∧ ¬ Own Γ σ.h ρ b) (hM : ∀ b, Z b → Γ.w0.heap.size ≤ b ∨ Γ.M b)
    (hf : σ.free d = true) (hi : Γ.inn d = none) (ht : AsT Z σ.t) (hh : AsH Z σ.h) :
    ∃ (T : Nat) (rs : List SV), rs.length = ss.length ∧ (∀ (i : Nat) (r s : SV), rs[i]? = some r → ss[i]? = some s → Gd r s) ∧ (∀ (i j b : Nat) (ri rj : SV), rs[i]? = some ri → rs[j]? = some rj → Zn b ri → Zn b rj → i = j) ∧
      (∀ r ∈ rs, ∀ b, Zn b r → Z b) ∧ Iv Γ ⟨σ.t, ins d (.row n T rs) σ.h⟩ (upd ρ d v) a w := by
  generalize hs : SV.sl n ss = s at hT
  cases hT with
  | raw => cases hs
  | agg => cases hs
  | nil _ sz a' c' => injection hs with h1 h2; exact absurd h2 h0
  | sl _ sz T l b c cur vals z hb hl hc hz hcm hcs hg hel hsz hcl hzn hap =>
    injection hs with h1 h2
    subst h1 h2
    obtain ⟨f1, f2, f3⟩ := free_spec hf
    have hx : ∀ i, i < ss.length → ∃ r, ∀ s, ss[i]? = some s → Gd r s ∧ (∀ q, Zn q r → z i q) ∧ Rep w (fun q => Own Γ σ.h ρ q ∨ q = b) r (vals i) := by
      intro i hi
      obtain ⟨r, h1, h2, h3⟩ := tree_open (O := fun q => Own Γ σ.h ρ q ∨ q = b) (hel i ss[i] (List.getElem?_eq_getElem hi)) (fun q hq => ⟨(hZ q (hzn i q hq).1).1, fun h => h.elim (hZ q (hzn i q hq).1).2 (hzn i q hq).2⟩)
      refine ⟨r, fun s hs => ?_⟩
      rw [List.getElem?_eq_getElem hi] at hs
      cases hs
      exact ⟨h1, h2, h3⟩
    obtain ⟨g, hg'⟩ := @choose_lt' SV ⟨.raw undef⟩ ss.length _ hx
    have hget : ∀ i r, ((List.range ss.length).map g)[i]? = some r → i < ss.length ∧ g i = r := fun i r hi => get_of_family g hi
    have hrl : ((List.range ss.length).map g).length = ss.length := by simp
    have hgz : ∀ r ∈ (List.range ss.length).map g, ∀ q, Zn q r → Z q ∧ q ≠ b := by
      intro r hr q hq
      obtain ⟨i, hi'⟩ := List.getElem?_of_mem hr
      obtain ⟨hi, rfl⟩ := hget i r hi'
      exact hzn i q ((hg' i hi _ (List.getElem?_eq_getElem hi)).2.1 q hq)
    have hmul : ss.length * n ≤ cur.size := by rw [hcs]; exact Nat.mul_le_mul_right n hc
    have hO' : ∀ q, Own Γ (ins d (.row n T ((List.range ss.length).map g)) σ.h) (upd ρ d (.slice (some ⟨b, 0, none⟩) ss.length c)) q → Own Γ σ.h ρ q ∨ q = b := by
      rintro q (hO | ⟨k1, e1, hk1, hb1⟩)
      · exact .inl (.inl hO)
      · rw [lookup_ins] at hk1
        by_cases h : k1 = d
        · subst h; rw [upd_at] at hb1; simp [blk] at hb1; exact .inr hb1.symm
        · rw [if_neg h] at hk1; rw [upd_ne _ _ h] at hb1; exact .inl (.inr ⟨k1, e1, hk1, hb1⟩)
    have hLb : ∀ {lv : LV} {u : Value}, AsL Z lv → lv.mentions d = false → LRep w (Own Γ σ.h ρ) ρ lv u → LRep w (Own Γ (ins d (.row n T ((List.range ss.length).map g)) σ.h) (upd ρ d (.slice (some ⟨b, 0, none⟩) ss.length c))) (upd ρ d (.slice (some ⟨b, 0, none⟩) ss.length c)) lv u := by
      intro lv u has hm hr
      refine LRep.upd (v' := .slice (some ⟨b, 0, none⟩) ss.length c) (k := d) ?_ hm
      cases lv with
      | sv s =>
        refine Zd.rep has.1 hr fun q hq hO => ?_
        rcases hO' q hO with h | rfl
        · exact (Rep.zn hq hr).2 h
        · exact has.2 _ hb hq
      | av Z' s =>
        refine Rep.kp (O := fun q => Own Γ σ.h ρ q ∨ Z' q) hr fun q _ hno => ⟨rfl, ?_⟩
        rintro (hO | hz')
        · rcases hO' q hO with h | rfl
          · exact hno (.inl h)
          · exact hno (.inr (has _ hb))
        · exact hno (.inr hz')
      | _ => exact hr
    refine ⟨T, (List.range ss.length).map g, hrl, fun i r s hr hs => ?_, fun i j q ri rj hri hrj hqi hqj => ?_, fun r hr q hq => (hgz r hr q hq).1, ?_⟩
    · obtain ⟨hi, rfl⟩ := hget i r hr
      exact (hg' i hi s hs).1
    · obtain ⟨hi, rfl⟩ := hget i ri hri
      obtain ⟨hj, rfl⟩ := hget j rj hrj
      exact hap i j q ((hg' i hi _ (List.getElem?_eq_getElem hi)).2.1 q hqi) ((hg' j hj _ (List.getElem?_eq_getElem hj)).2.1 q hqj)
    · refine ⟨I.dfr, I.size, I.frm, fun t lv h => hLb (asT_get ht h) (f1 t lv h) (I.tmp t lv h), fun k e hk => ?_, fun k e q hk hq => ?_, fun k k' e e' q hk hk' hq hq' => ?_, I.out, fun k u hu => ?_⟩
      · rw [lookup_ins] at hk
        by_cases h : k = d
        · subst h
          rw [if_pos rfl] at hk; cases hk
          refine ⟨hz, cur.toList.take (ss.length * n), vals, ?_, fun i r hi => ?_⟩
          · rw [upd_at]
            exact ⟨by rw [hrl, List.length_take, Array.length_toList]; exact Nat.min_eq_left hmul, .inr ⟨b, c, cur, by rw [hrl], Nat.zero_le _, hg, by rw [hrl]; exact hc, hcm, hcs, by rw [hrl]⟩⟩
          · obtain ⟨hi', rfl⟩ := hget i r hi
            obtain ⟨g1, g2, g3⟩ := hg' i hi' _ (List.getElem?_eq_getElem hi')
            refine ⟨g3.kp (fun q _ hno => ⟨rfl, fun h => hno (hO' q h)⟩), hsz i hi', fun j u hu => ?_⟩
            have h3 := hcl i hi' j u hu
            have hjn : j < n := by
              have h4 := hsz i hi'
              have := (Array.getElem?_eq_some_iff.1 hu).1
              omega
            have hlt2 : i * n + j < ss.length * n := by
              have : (i + 1) * n ≤ ss.length * n := Nat.mul_le_mul_right n hi'
              rw [Nat.add_mul, Nat.one_mul] at this
              omega
            rw [List.getElem?_take, if_pos hlt2, Array.getElem?_toList]; exact h3
        · rw [if_neg h] at hk
          have hE := I.ent k e hk
          have hA := asH_get hh hk
          have hm := f2 k e hk
          cases e with
          | box cells =>
            obtain ⟨b', T', cur', q1, q2, q3, q4⟩ := hE
            refine ⟨b', T', cur', by rw [upd_ne _ _ h]; exact q1, q2, q3, fun j lv u hj hu => ⟨?_, (q4 j lv u hj hu).2⟩⟩
            have hmem := List.mem_of_getElem? hj
            have hml : lv.mentions d = false := by
              have := hm
              simp only [Ent.mentions, List.any_eq_false] at this
              simpa using this lv hmem
            exact hLb (hA lv hmem) hml (q4 j lv u hj hu).1
          | row sz T' l' =>
            obtain ⟨hz', xs, vals', hown, hel'⟩ := hE
            refine ⟨hz', xs, vals', by rw [upd_ne _ _ h]; exact hown, fun i s hi => ⟨?_, (hel' i s hi).2⟩⟩
            have hmem := List.mem_of_getElem? hi
            obtain ⟨a1, a2⟩ := hA s hmem
            refine Zd.rep a1 (hel' i s hi).1 fun q hq hO => ?_
            rcases hO' q hO with h | rfl
            · exact (Rep.zn hq (hel' i s hi).1).2 h
            · exact a2 _ hb hq
          | map kk es =>
            obtain ⟨r, en, cl, q1, q2, q3⟩ := hE
            exact ⟨r, en, cl, by rw [upd_ne _ _ h]; exact q1, q2, q3⟩
          | rowl T' cells =>
            obtain ⟨xs, hown, q4⟩ := hE
            refine ⟨xs, by rw [upd_ne _ _ h]; exact hown, fun j lv u hj hu => ⟨?_, (q4 j lv u hj hu).2⟩⟩
            have hmem := List.mem_of_getElem? hj
            have hml : lv.mentions d = false := by
              have := hm
              simp only [Ent.mentions, List.any_eq_false] at this
              simpa using this lv hmem
            exact hLb (hA lv hmem) hml (q4 j lv u hj hu).1
      · rw [lookup_ins] at hk
        by_cases h : k = d
        · subst h
          rw [upd_at] at hq
          simp [blk] at hq; subst hq
          exact ⟨hM _ hb, (hZ _ hb).1⟩
        · rw [if_neg h] at hk; rw [upd_ne _ _ h] at hq
          exact I.new k e q hk hq
      · rw [lookup_ins] at hk hk'
        by_cases h : k = d
        · subst h
          rw [upd_at] at hq
          simp [blk] at hq; subst hq
          by_cases h' : k' = k
          · exact h'.symm
          · rw [if_neg h'] at hk'; rw [upd_ne _ _ h'] at hq'
            exact absurd (.inr ⟨k', e', hk', hq'⟩) (hZ _ hb).2
        · rw [if_neg h] at hk; rw [upd_ne _ _ h] at hq
          by_cases h' : k' = d
          · subst h'
            rw [upd_at] at hq'
            simp [blk] at hq'; subst hq'
            exact absurd (.inr ⟨k, e, hk, hq⟩) (hZ _ hb).2
          · rw [if_neg h'] at hk'; rw [upd_ne _ _ h'] at hq'
            exact I.sep k k' e e' q hk hk' hq hq'
      · by_cases h : k = d
        · subst h; rw [hi] at hu; cases hu
        · rw [upd_ne _ _ h]; exact I.inn k u hu
end
def rmT (k : Nat) (t : List (Nat × LV)) : List (Nat × LV) := t.filter fun p => p.1 != k
theorem rmT_lookup {k k' : Nat} {lv : LV} : ∀ {t : List (Nat × LV)}, (rmT k t).lookup k' = some lv → t.lookup k' = some lv ∧ k' ≠ k
  | [], h => by simp [rmT] at h
  | (k1, e1) :: l, h => by
    by_cases h1 : k1 = k
    · subst h1
      have e : rmT k1 ((k1, e1) :: l) = rmT k1 l := by simp [rmT]
      rw [e] at h
      obtain ⟨h2, h3⟩ := rmT_lookup h
      refine ⟨?_, h3⟩
      rw [List.lookup_cons]
      have : (k' == k1) = false := by simpa using h3
      simp only [this]; exact h2
    · have e : rmT k ((k1, e1) :: l) = (k1, e1) :: rmT k l := by simp [rmT, h1]
      rw [e, List.lookup_cons] at h
      rw [List.lookup_cons]
      cases hk : (k' == k1) with
      | true => simp only [hk] at h ⊢; exact ⟨h, fun hh => h1 ((by simpa using hk : k' = k1).symm.trans hh)⟩
      | false => simp only [hk] at h ⊢; exact rmT_lookup h
/-- What a copy's elements are, as elements of a row of ours. -/
structure Otr (Z : Nat → Prop) (rs ss : List SV) : Prop where
  len : rs.length = ss.length
  gd : ∀ (i : Nat) (r s : SV), rs[i]? = some r → ss[i]? = some s → Gd r s
  ap : ∀ (i j b : Nat) (ri rj : SV), rs[i]? = some ri → rs[j]? = some rj → Zn b ri → Zn b rj → i = j
  zn : ∀ r ∈ rs, ∀ b, Zn b r → Z b
theorem Otr.cps {Z : Nat → Prop} {rs ss : List SV} {w0 : World} (h : Otr Z rs ss) (hz : ∀ b, Z b → w0.heap.size ≤ b) : Cps w0 rs ss := ⟨h.len, h.gd, h.ap, fun r hr b hb => hz b (h.zn r hr b hb)⟩
/-- A copy in a slot. -/
theorem ok_otr {Γ : Ctx} {code : Code} {t : List (Nat × LV)} {h : List (Nat × Ent)} {Q : Exit → St → Prop} {n : Nat} {Z : Nat → Prop} {ss : List SV} {v : Value} (k0 d : Nat) (hk0 : t.lookup k0 = some (.sv (.tr Z (.sl n ss) v))) (h0 : ss ≠ []) (hM : ∀ b, Z b → Γ.w0.heap.size ≤ b ∨ Γ.M b)
    (hf : St.free ⟨rmT k0 t, h⟩ d = true) (hi : Γ.inn d = none) (ht : AsT Z (rmT k0 t)) (hh : AsH Z h) (hok : ∀ T rs, Otr Z rs ss → Ok Γ code ⟨(k0, .own d) :: rmT k0 t, ins d (.row n T rs) h⟩ Q) : Ok Γ code ⟨t, h⟩ Q := by
  rintro a w ⟨ρ, I⟩
  have hX : Rep w (Own Γ h ρ) (.tr Z (.sl n ss) v) (a.tmps.getD k0 undef) := I.tmp k0 _ hk0
  have I1 : Iv Γ ⟨rmT k0 t, h⟩ ρ a w := I.sub (fun t lv h => (rmT_lookup h).1) (fun _ _ h => h)
  generalize hu : a.tmps.getD k0 undef = u at hX
  cases hX with
  | tr _ _ _ hT hZ =>
    obtain ⟨T, rs, h1, h2, h3, h4, J⟩ := I1.otr h0 hT hZ hM hf hi ht hh
    refine hok T rs ⟨h1, h2, h3, h4⟩ a w ⟨_, J.dfr, J.size, J.frm, fun t lv h => ?_, J.ent, J.new, J.sep, J.out, J.inn⟩
    rw [List.lookup_cons] at h
    cases hq : (t == k0) with
    | true =>
      simp only [hq, Option.some.injEq] at h
      subst h
      have : t = k0 := by simpa using hq
      subst this
      show _ = upd ρ d _ d
      rw [upd_at, hu]
    | false => simp only [hq] at h; exact J.tmp t lv h
/-- A copy in a box. -/
theorem ok_otrb {Γ : Ctx} {code : Code} {t : List (Nat × LV)} {h : List (Nat × Ent)} {Q : Exit → St → Prop} {n : Nat} {Z : Nat → Prop} {ss : List SV} {v : Value} {cells : List LV} (kb j d : Nat) (hkb : h.lookup kb = some (.box cells)) (hj : cells[j]? = some (.sv (.tr Z (.sl n ss) v))) (h0 : ss ≠ []) (hM : ∀ b, Z b → Γ.w0.heap.size ≤ b ∨ Γ.M b)
    (hd : d ≠ kb) (hf : St.free ⟨t, ins kb (.box (cells.set j .dead)) h⟩ d = true) (hi : Γ.inn d = none) (ht : AsT Z t) (hh : AsH Z (ins kb (.box (cells.set j .dead)) h))
    (hok : ∀ T rs, Otr Z rs ss → Ok Γ code ⟨t, ins kb (.box (cells.set j (.own d))) (ins d (.row n T rs) (ins kb (.box (cells.set j .dead)) h))⟩ Q) : Ok Γ code ⟨t, h⟩ Q := by
  rintro a w ⟨ρ, I⟩
  obtain ⟨b, T0, cur, q1, q2, q3, q4⟩ := I.ent kb _ hkb
  have hjl := (List.getElem?_eq_some_iff.1 hj).1
  have hcj : cur[j]? = some (cur[j]'(by omega)) := Array.getElem?_eq_getElem (by omega)
  have hX := (q4 j _ _ hj hcj).1
  have hX1 := (q4 j _ _ hj hcj).2
  have I1 : Iv Γ ⟨t, ins kb (.box (cells.set j .dead)) h⟩ ρ a w := I.conv hkb fun O hE => by
    obtain ⟨b', T', cur', p1, p2, p3, p4⟩ := hE
    refine ⟨b', T', cur', p1, p2, by rw [p3, List.length_set], fun i lv u hi' hu => ?_⟩
    rw [List.getElem?_set] at hi'
    split at hi'
    · rename_i e
      cases hi'
      subst e
      exact ⟨trivial, (p4 j _ u hj hu).2⟩
    · exact p4 i lv u hi' hu
  have hOs : ∀ q, Own Γ (ins kb (.box (cells.set j .dead)) h) ρ q → Own Γ h ρ q := by
    rintro q (hO | ⟨k1, e1, hk1, hb1⟩)
    · exact .inl hO
    · rw [lookup_ins] at hk1
      by_cases hc : k1 = kb
      · subst hc; exact .inr ⟨k1, _, hkb, hb1⟩
      · rw [if_neg hc] at hk1; exact .inr ⟨k1, e1, hk1, hb1⟩
  generalize hu : (cur[j]'(by omega)) = u at hX hX1 hcj
  have hX' : Rep w (Own Γ h ρ) (.tr Z (.sl n ss) v) u := hX
  cases hX' with
  | tr _ _ _ hT hZ =>
    obtain ⟨T, rs, h1, h2, h3, h4, J⟩ := I1.otr h0 hT (fun q hq => ⟨(hZ q hq).1, fun h => (hZ q hq).2 (hOs q h)⟩) hM hf hi ht hh
    refine hok T rs ⟨h1, h2, h3, h4⟩ a w ⟨_, J.conv (k := kb) (e := .box (cells.set j .dead)) (by rw [lookup_ins, if_neg (fun e => hd e.symm), lookup_ins, if_pos rfl]) fun O hE => ?_⟩
    obtain ⟨b', T', cur', p1, p2, p3, p4⟩ := hE
    have hρ : upd ρ d v kb = ρ kb := upd_ne _ _ fun e => hd e.symm
    have hbb : b' = b := by
      rw [hρ, q1] at p1
      simp only [Value.pointer.injEq, Option.some.injEq, Addr.mk.injEq, and_true] at p1
      exact p1.symm
    subst hbb
    rw [q2] at p2
    cases p2
    refine ⟨b', _, cur, p1, q2, by rw [q3, List.length_set], fun i lv u' hi' hu' => ?_⟩
    rw [List.getElem?_set] at hi'
    split at hi'
    · rename_i e
      cases hi'
      subst e
      rw [hcj] at hu'
      cases hu'
      exact ⟨by show v = upd ρ d v d; rw [upd_at], hX1⟩
    · rename_i e
      exact p4 i lv u' (by rw [List.getElem?_set, if_neg e]; exact hi') hu'
/-- What stands aside is a value all the same. -/
def unav : LV → LV
  | .av _ s => .sv s
  | lv => lv
theorem le_unav {Γ : Ctx} {t : List (Nat × LV)} {h : List (Nat × Ent)} : Le Γ ⟨t.map fun p => (p.1, unav p.2), h⟩ ⟨t, h⟩ := by
  rintro a w ⟨ρ, I⟩
  refine ⟨ρ, I.dfr, I.size, I.frm, fun t' lv hl => ?_, I.ent, I.new, I.sep, I.out, I.inn⟩
  have key : ∀ (t : List (Nat × LV)), (t.map fun p => (p.1, unav p.2)).lookup t' = some lv → ∃ lv0, t.lookup t' = some lv0 ∧ lv = unav lv0 := by
    intro t
    induction t with
    | nil => intro h; simp at h
    | cons p t ih =>
      intro h
      rw [List.map_cons, List.lookup_cons] at h
      rw [List.lookup_cons]
      cases hq : (t' == p.1) with
      | true => simp only [hq, Option.some.injEq] at h ⊢; exact ⟨p.2, rfl, h.symm⟩
      | false => simp only [hq] at h ⊢; exact ih h
  obtain ⟨lv0, h0, rfl⟩ := key t hl
  have h1 := I.tmp t' lv0 h0
  cases lv0 with
  | av Z s => exact Rep.kp (O := fun b => Own Γ h ρ b ∨ Z b) (O' := Own Γ h ρ) h1 fun b _ hno => ⟨rfl, fun h => hno (.inl h)⟩
  | _ => exact h1
end Go.Abs

/- A row of ours, of copies, in a box's cell: read as a copy; a nil slice in a box's cell: a row of ours. Within a region: a row as a copy. No condition. -/
namespace Go.Abs
open Go Go.RowKit Go.Eager
set_option linter.unusedVariables false
set_option linter.unusedSimpArgs false
section
variable {Γ : Ctx} {σ : St} {ρ : Nat → Value} {a : Act} {w : World}
/-- One entry told otherwise. -/
theorem Iv.convO (I : Iv Γ σ ρ a w) {k : Nat} {e e' : Ent} (hk : σ.h.lookup k = some e) (hE : ERep w (Own Γ σ.h ρ) ρ k e → ERep w (Own Γ σ.h ρ) ρ k e') : Iv Γ ⟨σ.t, ins k e' σ.h⟩ ρ a w := by
  have hO : ∀ b, Own Γ (ins k e' σ.h) ρ b → Own Γ σ.h ρ b := by
    rintro b (h | ⟨k1, e1, h1, hb⟩)
    · exact .inl h
    · rw [lookup_ins] at h1
      by_cases hkk : k1 = k
      · subst hkk; exact .inr ⟨k1, e, hk, hb⟩
      · rw [if_neg hkk] at h1; exact .inr ⟨k1, e1, h1, hb⟩
  have kp : Kp w (Own Γ σ.h ρ) w (Own Γ (ins k e' σ.h) ρ) := fun b _ hno => ⟨rfl, fun h => hno (hO b h)⟩
  have hl : ∀ k1 e1, (ins k e' σ.h).lookup k1 = some e1 → ∃ e2, σ.h.lookup k1 = some e2 := fun k1 e1 h1 => by
    rw [lookup_ins] at h1
    by_cases hkk : k1 = k
    · subst hkk; exact ⟨e, hk⟩
    · rw [if_neg hkk] at h1; exact ⟨e1, h1⟩
  refine ⟨I.dfr, I.size, I.frm, fun t lv h => (I.tmp t lv h).kp kp, fun k1 e1 h1 => ?_, fun k1 e1 b h1 hb => ?_, fun k1 k2 e1 e2 b h1 h2 hb1 hb2 => ?_, I.out, I.inn⟩
  · rw [lookup_ins] at h1
    by_cases hkk : k1 = k
    · subst hkk
      rw [if_pos rfl] at h1; cases h1
      exact (hE (I.ent k1 e hk)).step kp (fun _ _ => rfl) rfl fun _ _ _ _ _ _ h => h
    · rw [if_neg hkk] at h1
      exact (I.ent k1 e1 h1).step kp (fun _ _ => rfl) rfl fun _ _ _ _ _ _ h => h
  · obtain ⟨e2, h2⟩ := hl k1 e1 h1
    exact I.new k1 e2 b h2 hb
  · obtain ⟨e3, h3⟩ := hl k1 e1 h1
    obtain ⟨e4, h4⟩ := hl k2 e2 h2
    exact I.sep k1 k2 e3 e4 b h3 h4 hb1 hb2
/-- A nil slice in a box's cell: a row of ours, of nothing yet. -/
theorem Iv.openb (I : Iv Γ σ ρ a w) {k i kn n T : Nat} {cells : List LV} (hk : σ.h.lookup k = some (.box cells)) (hc : cells[i]? = some (.sv (.raw (.slice none 0 0)))) (hn : 0 < n) (hf : σ.free kn = true) (hi : Γ.inn kn = none) :
    Iv Γ ⟨σ.t, ins k (.box (cells.set i (.own kn))) (ins kn (.row n T []) σ.h)⟩ (upd ρ kn (.slice none 0 0)) a w := by
  have J := I.begin (T := T) hn hf hi
  have hne : k ≠ kn := by
    rintro rfl
    obtain ⟨_, _, f3⟩ := free_spec hf
    rw [hk] at f3; cases f3
  refine J.conv (k := k) (e := .box cells) (by rw [lookup_ins, if_neg hne]; exact hk) fun O h => ?_
  obtain ⟨b', T', cur, q1, q2, q3, q4⟩ := h
  refine ⟨b', T', cur, q1, q2, by rw [q3, List.length_set], fun j lv u hj hu => ?_⟩
  rcases set_getG hj with ⟨rfl, rfl⟩ | ⟨_, h2⟩
  · have h3 := q4 j _ u hc hu
    have h4 : u = .slice none 0 0 := rep_raw' h3.1
    exact ⟨by show u = upd ρ kn _ kn; rw [upd_at, h4], h3.2⟩
  · exact q4 j lv u h2 hu
theorem le_openb {Γ : Ctx} {t : List (Nat × LV)} {h : List (Nat × Ent)} {c : List LV} (k i kn n T : Nat) (hk : h.lookup k = some (.box c)) (hc : c[i]? = some (.sv (.raw (.slice none 0 0)))) (hn : 0 < n) (hf : St.free ⟨t, h⟩ kn = true) (hi : Γ.inn kn = none) :
    Le Γ ⟨t, ins k (.box (c.set i (.own kn))) (ins kn (.row n T []) h)⟩ ⟨t, h⟩ := fun _ _ ⟨_, I⟩ => ⟨_, I.openb hk hc hn hf hi⟩
/-- What the row k was, dropped, is a tree of its own. -/
theorem treed_zone {t : List (Nat × LV)} {h : List (Nat × Ent)} (I : Iv Γ ⟨t, h⟩ ρ a w) {k n T : Nat} {rs : List SV} (hk : h.lookup k = some (.row n T rs)) (hzn : ∀ r ∈ rs, ∀ b, Zn b r → Γ.w0.heap.size ≤ b ∨ Γ.M b) :
    ∀ b, (blk (ρ k) = some b ∨ ∃ r ∈ rs, Zn b r) → (Γ.w0.heap.size ≤ b ∨ Γ.M b) ∧ b < w.heap.size ∧ ¬ Own Γ (dropH k h) ρ b := by
  rintro b (hb | ⟨r, hr, hb⟩)
  · refine ⟨(I.new k _ b hk hb).1, (I.new k _ b hk hb).2, ?_⟩
    rintro (hO | ⟨k1, e1, hk1, hb1⟩)
    · have := I.out b hO
      rcases (I.new k _ b hk hb).1 with h1 | h1
      · omega
      · exact this.2 h1
    · obtain ⟨h1, h2⟩ := dropH_lookup hk1
      exact h2 (I.sep k1 k e1 _ b h1 hk hb1 hb)
  · obtain ⟨_, xs, vals, _, hel⟩ := I.ent k _ hk
    obtain ⟨i, hi⟩ := List.getElem?_of_mem hr
    have h1 := Rep.zn hb (hel i r hi).1
    refine ⟨hzn r hr b hb, h1.1, ?_⟩
    rintro (hO | ⟨k1, e1, hk1, hb1⟩)
    · exact h1.2 (.inl hO)
    · exact h1.2 (.inr ⟨k1, e1, (dropH_lookup hk1).1, hb1⟩)
end
/-- A row of ours, of copies, in the box kb: a copy. -/
theorem ok_treedb {Γ : Ctx} {code : Code} {t : List (Nat × LV)} {h : List (Nat × Ent)} {Q : Exit → St → Prop} {k n T : Nat} {rs ss : List SV} {cells : List LV} (kb j : Nat) (hkb : (dropH k h).lookup kb = some (.box cells)) (hj : cells[j]? = some (.own k))
    (hk : h.lookup k = some (.row n T rs)) (hl : rs.length = ss.length) (hg : ∀ (i : Nat) (r s : SV), rs[i]? = some r → ss[i]? = some s → Gd r s)
    (hap : ∀ (i j b : Nat) (ri rj : SV), rs[i]? = some ri → rs[j]? = some rj → Zn b ri → Zn b rj → i = j) (hzn : ∀ r ∈ rs, ∀ b, Zn b r → Γ.w0.heap.size ≤ b ∨ Γ.M b)
    (hok : ∀ (Z : Nat → Prop) (v : Value), (∀ b, Z b → (Γ.w0.heap.size ≤ b ∨ Γ.M b)) → (∀ (k1 n1 T1 : Nat) (r1 : List SV), (dropH k h).lookup k1 = some (.row n1 T1 r1) → ∀ s ∈ r1, ∀ b, Zn b s → Z b → ∃ r ∈ rs, Zn b r) → (∀ (s1 : Nat) (r1 : SV), t.lookup s1 = some (.sv r1) → ∀ b, Zn b r1 → Z b → ∃ r ∈ rs, Zn b r) → (∀ (k1 : Nat) (c1 : List LV) (i1 : Nat) (r1 : SV), (dropH k h).lookup k1 = some (.box c1) → c1[i1]? = some (.sv r1) → ∀ b, Zn b r1 → Z b → ∃ r ∈ rs, Zn b r) → Ok Γ code ⟨t, ins kb (.box (cells.set j (.sv (.tr Z (.sl n ss) v)))) (dropH k h)⟩ Q) : Ok Γ code ⟨t, h⟩ Q := by
  rintro a w ⟨ρ, I⟩
  have hT := row_tree I hk hl hg hap
  have hZb := treed_zone I hk hzn
  have J : Iv Γ ⟨t, dropH k h⟩ ρ a w := I.sub (fun _ _ h => h) fun k e h => (dropH_lookup h).1
  have hno : ∀ b, blk (ρ k) = some b → Own Γ h ρ b := fun b hb => .inr ⟨k, _, hk, hb⟩
  refine hok (fun b => blk (ρ k) = some b ∨ ∃ r ∈ rs, Zn b r) (ρ k) (fun b hb => (hZb b hb).1) (fun k1 n1 T1 r1 h1 s hs b hb hz => ?_) (fun s1 r1 h1 b hb hz => ?_) (fun k1 c1 i1 r1 h1 hi1 b hb hz => ?_) a w ⟨ρ, J.convO hkb fun hE => ?_⟩
  · rcases hz with hz | hz
    · obtain ⟨i, hi⟩ := List.getElem?_of_mem hs
      obtain ⟨_, xs, vals, _, hel⟩ := I.ent k1 _ (dropH_lookup h1).1
      exact absurd (hno b hz) (Rep.zn hb (hel i s hi).1).2
    · exact hz
  · rcases hz with hz | hz
    · exact absurd (hno b hz) (Rep.zn hb (I.tmp s1 _ h1)).2
    · exact hz
  · rcases hz with hz | hz
    · obtain ⟨b', T', cur, p1, p2, p3, p4⟩ := I.ent k1 _ (dropH_lookup h1).1
      have hlt := (List.getElem?_eq_some_iff.1 hi1).1
      have hX := (p4 i1 _ _ hi1 (Array.getElem?_eq_getElem (by omega))).1
      exact absurd (hno b hz) (Rep.zn hb hX).2
    · exact hz
  · obtain ⟨b', T', cur, p1, p2, p3, p4⟩ := hE
    refine ⟨b', T', cur, p1, p2, by rw [p3, List.length_set], fun i lv u hi hu => ?_⟩
    rcases set_getG hi with ⟨rfl, rfl⟩ | ⟨_, h2⟩
    · have h3 := p4 i _ u hj hu
      have h4 : u = ρ k := h3.1
      subst h4
      exact ⟨.tr _ _ _ hT fun b hb => (hZb b hb).2, h3.2⟩
    · exact p4 i lv u h2 hu
section
variable {Γ : Ctx} {ops : Array Oper} {l : List (Oper × Nat)} {t : List (Nat × LV)} {h : List (Nat × Ent)} {K : St → Prop}
/-- Within a region: a row of ours, of copies, as a copy. -/
theorem run_treed {k n T : Nat} {rs ss : List SV} (hk : h.lookup k = some (.row n T rs)) (hl : rs.length = ss.length) (hg : ∀ (i : Nat) (r s : SV), rs[i]? = some r → ss[i]? = some s → Gd r s)
    (hap : ∀ (i j b : Nat) (ri rj : SV), rs[i]? = some ri → rs[j]? = some rj → Zn b ri → Zn b rj → i = j) (hzn : ∀ r ∈ rs, ∀ b, Zn b r → Γ.w0.heap.size ≤ b ∨ Γ.M b)
    (hok : ∀ (Z : Nat → Prop) (v : Value), (∀ b, Z b → Γ.w0.heap.size ≤ b ∨ Γ.M b) → RunL Γ ops l ⟨tdT k (.tr Z (.sl n ss) v) t, dropH k h⟩ K) : RunL Γ ops l ⟨t, h⟩ K := by
  rintro hd a w ⟨ρ, I⟩
  have hT := row_tree I hk hl hg hap
  have hZb := treed_zone I hk hzn
  refine hok (fun b => blk (ρ k) = some b ∨ ∃ r ∈ rs, Zn b r) (ρ k) (fun b hb => (hZb b hb).1) hd a w ⟨ρ, ?_⟩
  have J : Iv Γ ⟨t, dropH k h⟩ ρ a w := I.sub (fun _ _ h => h) fun k e h => (dropH_lookup h).1
  refine ⟨J.dfr, J.size, J.frm, ?_, J.ent, J.new, J.sep, J.out, J.inn⟩
  intro t' lv h'
  rcases tdT_lookup h' with h'' | ⟨h'', rfl⟩
  · exact J.tmp t' lv h''
  · have h1 : a.tmps.getD t' undef = ρ k := I.tmp t' _ h''
    show Rep w _ _ _
    rw [h1]
    exact .tr _ _ _ hT fun b hb => (hZb b hb).2
end
/-- A row of ours, of copies, as a copy; what else has of it, its elements have. -/
theorem ok_treed3 {Γ : Ctx} {code : Code} {t : List (Nat × LV)} {h : List (Nat × Ent)} {Q : Exit → St → Prop} {k n T : Nat} {rs ss : List SV}
    (hk : h.lookup k = some (.row n T rs)) (hl : rs.length = ss.length) (hg : ∀ (i : Nat) (r s : SV), rs[i]? = some r → ss[i]? = some s → Gd r s)
    (hap : ∀ (i j b : Nat) (ri rj : SV), rs[i]? = some ri → rs[j]? = some rj → Zn b ri → Zn b rj → i = j) (hzn : ∀ r ∈ rs, ∀ b, Zn b r → Γ.w0.heap.size ≤ b ∨ Γ.M b)
    (hok : ∀ (Z : Nat → Prop) (v : Value), (∀ b, Z b → (Γ.w0.heap.size ≤ b ∨ Γ.M b)) → (∀ (k1 n1 T1 : Nat) (r1 : List SV), (dropH k h).lookup k1 = some (.row n1 T1 r1) → ∀ s ∈ r1, ∀ b, Zn b s → Z b → ∃ r ∈ rs, Zn b r) → (∀ (s1 : Nat) (r1 : SV), t.lookup s1 = some (.sv r1) → ∀ b, Zn b r1 → Z b → ∃ r ∈ rs, Zn b r) → (∀ (k1 : Nat) (c1 : List LV) (i1 : Nat) (r1 : SV), (dropH k h).lookup k1 = some (.box c1) → c1[i1]? = some (.sv r1) → ∀ b, Zn b r1 → Z b → ∃ r ∈ rs, Zn b r) → Ok Γ code ⟨tdT k (.tr Z (.sl n ss) v) t, dropH k h⟩ Q) : Ok Γ code ⟨t, h⟩ Q := by
  rintro a w ⟨ρ, I⟩
  have hT := row_tree I hk hl hg hap
  have hZb := treed_zone I hk hzn
  have J : Iv Γ ⟨t, dropH k h⟩ ρ a w := I.sub (fun _ _ h => h) fun k e h => (dropH_lookup h).1
  have hno : ∀ b, blk (ρ k) = some b → Own Γ h ρ b := fun b hb => .inr ⟨k, _, hk, hb⟩
  refine hok (fun b => blk (ρ k) = some b ∨ ∃ r ∈ rs, Zn b r) (ρ k) (fun b hb => (hZb b hb).1) (fun k1 n1 T1 r1 h1 s hs b hb hz => ?_) (fun s1 r1 h1 b hb hz => ?_) (fun k1 c1 i1 r1 h1 hi1 b hb hz => ?_) a w ⟨ρ, J.dfr, J.size, J.frm, ?_, J.ent, J.new, J.sep, J.out, J.inn⟩
  · rcases hz with hz | hz
    · obtain ⟨i, hi⟩ := List.getElem?_of_mem hs
      obtain ⟨_, xs, vals, _, hel⟩ := I.ent k1 _ (dropH_lookup h1).1
      exact absurd (hno b hz) (Rep.zn hb (hel i s hi).1).2
    · exact hz
  · rcases hz with hz | hz
    · exact absurd (hno b hz) (Rep.zn hb (I.tmp s1 _ h1)).2
    · exact hz
  · rcases hz with hz | hz
    · obtain ⟨b', T', cur, p1, p2, p3, p4⟩ := I.ent k1 _ (dropH_lookup h1).1
      have hlt := (List.getElem?_eq_some_iff.1 hi1).1
      have hX := (p4 i1 _ _ hi1 (Array.getElem?_eq_getElem (by omega))).1
      exact absurd (hno b hz) (Rep.zn hb hX).2
    · exact hz
  · intro t' lv h'
    rcases tdT_lookup h' with h'' | ⟨h'', rfl⟩
    · exact J.tmp t' lv h''
    · have h1 : a.tmps.getD t' undef = ρ k := I.tmp t' _ h''
      show Rep w _ _ _
      rw [h1]
      exact .tr _ _ _ hT fun b hb => (hZb b hb).2
section
variable {Γ : Ctx} {ops : Array Oper} {l : List (Oper × Nat)} {t : List (Nat × LV)} {h : List (Nat × Ent)} {K : St → Prop} {c d ty : Nat} {ps : String} {af : Array Edge} {x y : Operand}
/-- A struct of a struct and what is zero. -/
theorem q_bld1a {S : Nat} (vs us : List Value) (hx : St.ev ⟨t, h⟩ x = .sv (.agg (vs.map .raw))) (hb : Γ.P.built S [(0, .agg vs.toArray)] = some us.toArray) (h1 : us.all (·.oneCell') = true)
    (hk : RunL Γ ops l ⟨(d, .sv (.agg (us.map .raw))) :: t, h⟩ K) : RunL Γ ops ((⟨some d, .build S #[(0, x)], ty, ps, af, none⟩, c + 2) :: l) ⟨t, h⟩ K := by
  refine run_x (ext := True) rfl (by omega) (fun _ => trivial) fun a w ρ I hd => ?_
  have hX := I.ev x
  rw [hx] at hX
  have he : a.eval x = .agg vs.toArray := by
    obtain ⟨ws, e, hn⟩ := agg_inv hX
    rw [e]
    congr 1
    rw [e] at hX
    rw [List.length_map] at hn
    apply Array.ext
    · simp [hn]
    · intro i i1 i2
      have hi : i < vs.length := by omega
      cases hX with
      | agg _ _ _ _ hel =>
        have h3 := hel i (.raw vs[i]) ws[i] (by rw [List.getElem?_map, List.getElem?_eq_getElem hi]; rfl) (Array.getElem?_eq_getElem i1)
        rw [rep_raw' h3]; simp
  have run : (execOp a.eval ⟨some d, .build S #[(0, x)], ty, ps, af, none⟩).run Γ.P w = .ok (.value (.agg us.toArray)) w := by
    have := run_build (P := Γ.P) w S #[(0, a.eval x)] us.toArray (by rw [he]; exact hb)
    simp [execOp, this]
  unfold XOk oN
  rw [run]
  refine ⟨_, hk, ⟨ρ, I.put (d := some d) (by simpa [dstOk] using hd) (Rep.agg _ _ (by simp) (fun j u hu => ?_) (fun j s u hs hu => ?_))⟩, fun _ => Ext.refl w⟩
  · exact List.all_eq_true.1 h1 u (List.mem_of_getElem? (by simpa using hu))
  · rw [List.getElem?_map] at hs
    have hu' : us[j]? = some u := by simpa using hu
    rw [hu'] at hs
    simp at hs; subst hs; exact Rep.raw u
end
/-- A box of one cell, written no more: a pointer to its value. -/
theorem le_fb1 {Γ : Ctx} {t : List (Nat × LV)} {h : List (Nat × Ent)} (k : Nat) (s : SV) (hk : h.lookup k = some (.box [.sv s])) : Le Γ ⟨fbT k s t, dropH k h⟩ ⟨t, h⟩ := by
  rintro a w ⟨ρ, I⟩
  have J : Iv Γ ⟨t, dropH k h⟩ ρ a w := I.sub (fun _ _ h => h) fun k e h => (dropH_lookup h).1
  have hv : ∀ b, ρ k = .pointer (some ⟨b, 0, none⟩) → Rep w (Own Γ (dropH k h) ρ) (.ptr s) (.pointer (some ⟨b, 0, none⟩)) := by
    intro b0 hb0
    obtain ⟨b, T, cur, hr, hcur, hsz, hc⟩ := I.ent k _ hk
    rw [hb0] at hr
    simp only [Value.pointer.injEq, Option.some.injEq, Addr.mk.injEq, and_true] at hr
    subst hr
    have hbk : blk (ρ k) = some b0 := by rw [hb0]; rfl
    have h0 : 0 < cur.size := by rw [hsz]; simp
    have hcu : cur[0]? = some (cur[0]'h0) := Array.getElem?_eq_getElem h0
    obtain ⟨h1, h2⟩ := hc 0 (.sv s) _ rfl hcu
    have hcells := oneCell_cells h2
    refine Rep.ptr s b0 0 (cur[0]'h0) ?_ (Rep.kp h1 (Own.sub fun k e h => (dropH_lookup h).1)) (by rw [hcells]; simp) ?_
    · rintro (hO | ⟨k1, e1, hk1, hb1⟩)
      · have h1 := I.out b0 hO
        rcases (I.new k _ b0 hk hbk).1 with h | h
        · omega
        · exact h1.2 h
      · obtain ⟨h1, h2⟩ := dropH_lookup hk1
        exact h2 (I.sep k1 k e1 _ b0 h1 hk hb1 hbk)
    · intro j u hu
      rw [hcells] at hu
      have hj : j = 0 := by
        have := (Array.getElem?_eq_some_iff.1 hu).1
        simp at this; exact this
      subst hj
      rw [cell_of_row w b0 (0 + 0) cur T (0, 0) hcur, Nat.zero_add, hcu]
      simpa using hu
  refine ⟨ρ, J.dfr, J.size, J.frm, ?_, J.ent, J.new, J.sep, J.out, J.inn⟩
  intro t' lv hl
  rcases fbT_lookup hl with h' | ⟨h', rfl⟩ | rfl
  · exact J.tmp t' lv h'
  · obtain ⟨b, e1, e2⟩ := I.tmp t' _ h'
    show Rep w _ _ _
    rw [e2]; exact hv b e1
  · exact trivial
section
variable {Γ : Ctx} {σ : St} {ρ : Nat → Value} {a : Act} {w : World}
theorem ok_callrb (I : Iv Γ σ ρ a w) {o : Oper} {f : FuncId} {fn : Func} {args : Array Operand} {ts : Array TypeId} {sa : List SV} {R : SV → Prop} {K : St → Prop}
    (ho : o.op = .call { callee := .value (.func f), args := args, argTypes := ts }) (hdn : dstOk Γ o = true) (hf : Γ.P.funcs[f]? = some fn) (hname : (fn.name == "runtime.NumGoroutine") = false) (hb : fn.body.isNone = false)
    (ha : args.toList.map σ.ev = sa.map LV.sv) (hc : PFnR Γ.P f sa R) (hk : ∀ r, R r → (∀ b, Zn b r → Γ.w0.heap.size ≤ b) → Apart σ.t σ.h r → (∀ (k : Nat) (c : List LV) (i : Nat) (s : SV) (b : Nat), σ.h.lookup k = some (.box c) → c[i]? = some (.sv s) → Zn b s → ¬ Zn b r) → K (σ.put o.dst (.sv r))) : XOk Γ a w o True K := by
  have hrun : (execOp a.eval o).run Γ.P w = .ok (.enter f (args.map a.eval)) w := by
    have hY : a.eval (.func f) = .func (.func f) #[] #[] := rfl
    simp [execOp, ho, resolve, hY, Deferred.ofValue, invoke, run_callFunc hf hname hb]
  have hsz : (args.map a.eval).size = sa.length := by have := congrArg List.length ha; simp at this; simp [this]
  unfold XOk oN
  rw [hrun]
  refine (hc w (Own Γ σ.h ρ) (args.map a.eval) (fun b hb => blk_lt I hb) hsz fun i s u hi' hu => ?_).mono ?_
  · have h3 : (args.toList.map σ.ev)[i]? = some (.sv s) := by rw [ha, List.getElem?_map, hi']; rfl
    rw [Array.getElem?_map] at hu
    rw [List.getElem?_map] at h3
    cases hx : args[i]? with
    | none => simp [hx] at hu
    | some x =>
      have hx' : args.toList[i]? = some x := by simpa using hx
      simp only [hx', Option.map_some, Option.some.injEq] at h3
      simp only [hx, Option.map_some, Option.some.injEq] at hu
      subst hu
      have := I.ev x
      rw [h3] at this
      exact this
  · rintro e w' ⟨v, r, he, hx, hR, hn, hv⟩
    exact ⟨v, he, _, hk r hR (fun b hb => Nat.le_trans I.frm.size (hn b hb)) (apart_of I hn) (fun k c i s b hk hi hb hb' => by
      obtain ⟨b', T', cur, p1, p2, p3, p4⟩ := I.ent k _ hk
      have hlt := (List.getElem?_eq_some_iff.1 hi).1
      have h1 := (Rep.zn hb (p4 i _ _ hi (Array.getElem?_eq_getElem (by omega))).1).1
      have := hn b hb'
      omega), ⟨ρ, (I.ext hx).put (dstOk_spec hdn) hv⟩, fun _ => hx⟩
end
section
variable {Γ : Ctx} {ops : Array Oper} {l : List (Oper × Nat)} {t : List (Nat × LV)} {h : List (Nat × Ent)} {K : St → Prop} {c d ty : Nat} {ps : String} {af : Array Edge} {x y : Operand}
/-- A call that hands back a copy: apart of what boxes hold, too. -/
theorem q_callrb {f : Nat} {args : Array Operand} {ts : Array Nat} {sa : List SV} {R : SV → Prop} (hc : PFnR Γ.P f sa R) (hcl : Calb Γ.P f) (ha : args.toList.map (St.ev ⟨t, h⟩) = sa.map LV.sv)
    (hk : ∀ r, R r → (∀ b, Zn b r → Γ.w0.heap.size ≤ b) → Apart t h r → (∀ (k : Nat) (c : List LV) (i : Nat) (s : SV) (b : Nat), h.lookup k = some (.box c) → c[i]? = some (.sv s) → Zn b s → ¬ Zn b r) → RunL Γ ops l ⟨(d, .sv r) :: t, h⟩ K) :
    RunL Γ ops ((⟨some d, .call { callee := .value (.func f), args := args, argTypes := ts }, ty, ps, af, none⟩, c + 2) :: l) ⟨t, h⟩ K :=
  let ⟨_, hf', hname, hb⟩ := hcl
  run_x (ext := True) rfl (by omega) (fun _ => trivial) fun _ _ _ I hd => ok_callrb I rfl hd hf' hname hb ha hc hk
end
/-- Copies in a row of ours, read as values. -/
theorem le_rowgd {Γ : Ctx} {t : List (Nat × LV)} {h : List (Nat × Ent)} {n T : Nat} {rs ss : List SV} (k : Nat) (hk : h.lookup k = some (.row n T rs)) (hl : rs.length = ss.length) (hg : ∀ (i : Nat) (r s : SV), rs[i]? = some r → ss[i]? = some s → Gd r s) : Le Γ ⟨t, ins k (.row n T ss) h⟩ ⟨t, h⟩ := by
  rintro a w ⟨ρ, I⟩
  refine ⟨ρ, I.conv hk fun O hE => ?_⟩
  obtain ⟨hz, xs, vals, hown, hr⟩ := hE
  refine ⟨hz, xs, vals, by rw [← hl]; exact hown, fun i s hi => ?_⟩
  have hlt := (List.getElem?_eq_some_iff.1 hi).1
  have h1 : rs[i]? = some (rs[i]'(by omega)) := List.getElem?_eq_getElem (by omega)
  obtain ⟨q1, q2⟩ := hr i _ h1
  exact ⟨(hg i _ _ h1 hi).rep q1, q2⟩
/-- A copy in a box's cell, read as a value. -/
theorem le_boxgd {Γ : Ctx} {t : List (Nat × LV)} {h : List (Nat × Ent)} {cells : List LV} {r s : SV} (k j : Nat) (hk : h.lookup k = some (.box cells)) (hj : cells[j]? = some (.sv r)) (g : Gd r s) : Le Γ ⟨t, ins k (.box (cells.set j (.sv s))) h⟩ ⟨t, h⟩ := by
  rintro a w ⟨ρ, I⟩
  refine ⟨ρ, I.conv hk fun O hE => ?_⟩
  obtain ⟨b', T', cur, p1, p2, p3, p4⟩ := hE
  refine ⟨b', T', cur, p1, p2, by rw [p3, List.length_set], fun i lv u hi hu => ?_⟩
  rcases set_getG hi with ⟨rfl, rfl⟩ | ⟨_, h2⟩
  · obtain ⟨q1, q2⟩ := p4 i _ u hj hu
    exact ⟨g.rep q1, q2⟩
  · exact p4 i lv u h2 hu
end Go.Abs

/- Marks in a struct of a value and two rows that lies in a box. No condition. -/
namespace Go.Abs
open Go Go.RowKit Go.Eager
set_option linter.unusedVariables false
section
variable {Γ : Ctx} {ops : Array Oper} {l : List (Oper × Nat)} {t : List (Nat × LV)} {h : List (Nat × Ent)} {K : St → Prop} {c d ty : Nat} {ps : String} {af : Array Edge} {x y : Operand}
theorem q_mark2 {f : Nat} {ts : Array Nat} {Z1 Z2 : Nat → Prop} {s1 s2 : SV} {v1 v2 p : Value} (kb : Nat) {k : Int} {R : Int → SV → Prop} (hc : MarkC Γ.P f (.agg [.raw p, s1, s2]) k R) (hcl : Calb Γ.P f)
    (g : Gd (.agg [.raw p, .tr Z1 s1 v1, .tr Z2 s2 v2]) (.agg [.raw p, s1, s2]))
    (hx : St.ev ⟨t, h⟩ x = .sv (.agg [.raw p, .tr Z1 s1 v1, .tr Z2 s2 v2])) (hy : St.ev ⟨t, h⟩ y = .sv (.raw (.int .i64 k))) (hM : ∀ b, Zn b (.agg [.raw p, .tr Z1 s1 v1, .tr Z2 s2 v2]) → Γ.w0.heap.size ≤ b ∨ Γ.M b)
    (hkb : h.lookup kb = some (.box [.sv (.raw p), .sv (.tr Z1 s1 v1), .sv (.tr Z2 s2 v2)]))
    (hR : ∀ k' s'', R k' s'' → ∃ (p' : Value) (s1' s2' : SV), s'' = .agg [.raw p', s1', s2'])
    (t' : List (Nat × LV)) (h' : List (Nat × Ent)) (hkb' : h'.lookup kb = some (.box [.sv (.raw p), .dead, .dead])) (ht : LsT (fun b => Zn b (.agg [.raw p, .tr Z1 s1 v1, .tr Z2 s2 v2])) t t') (hh : LsH (fun b => Zn b (.agg [.raw p, .tr Z1 s1 v1, .tr Z2 s2 v2])) h h')
    (hk : ∀ k' s1' s2' (Z1' Z2' : Nat → Prop), (∀ b, Z1' b → ¬ Z2' b) → (∀ b, Z1' b → Zn b (.agg [.raw p, .tr Z1 s1 v1, .tr Z2 s2 v2])) → (∀ b, Z2' b → Zn b (.agg [.raw p, .tr Z1 s1 v1, .tr Z2 s2 v2])) → R k' (.agg [.raw p, s1', s2']) →
      RunL Γ ops l ⟨(d, .sv (.raw (.int .i64 k'))) :: t', ins kb (.box [.sv (.raw p), .sv (.tr Z1' s1' v1), .sv (.tr Z2' s2' v2)]) h'⟩ K) :
    RunL Γ ops ((⟨some d, .call { callee := .value (.func f), args := #[x, y], argTypes := ts }, ty, ps, af, none⟩, 2) :: l) ⟨t, h⟩ K := by
  obtain ⟨fn, hf', hname, hb⟩ := hcl
  refine run_x (ext := False) rfl (by omega) (fun h => (h rfl).elim) fun a w ρ I hd => ?_
  obtain ⟨hT, hZ⟩ := tree_of I hx g
  have hX := I.ev x
  rw [hx] at hX
  have hY : a.eval y = .int .i64 k := ev_raw I hy
  have hrun : (execOp a.eval ⟨some d, .call { callee := .value (.func f), args := #[x, y], argTypes := ts }, ty, ps, af, none⟩).run Γ.P w = .ok (.enter f #[a.eval x, .int .i64 k]) w := by
    have hF : a.eval (.func f) = .func (.func f) #[] #[] := rfl
    simp [execOp, resolve, hF, Deferred.ofValue, invoke, run_callFunc hf' hname hb, hY]
  unfold XOk oN
  rw [hrun]
  refine (hc w _ _ hT fun b hb => (hZ b hb).1).mono ?_
  rintro e w' ⟨k', s'', he, hR', hC, hT'⟩
  obtain ⟨p', s1', s2', rfl⟩ := hR k' s'' hR'
  have I' := I.less hC hZ hM ht hh
  generalize hU : a.eval x = u at hX hT'
  cases hX with
  | agg _ vs hn h1 h2 =>
    have hlen : vs.size = 3 := by rw [hn]; rfl
    have g0 : vs[0]? = some (vs[0]'(by omega)) := Array.getElem?_eq_getElem (by omega)
    have g1 : vs[1]? = some (vs[1]'(by omega)) := Array.getElem?_eq_getElem (by omega)
    have g2 : vs[2]? = some (vs[2]'(by omega)) := Array.getElem?_eq_getElem (by omega)
    have e0 : vs[0]'(by omega) = p := rep_raw' (h2 0 (.raw p) _ rfl g0)
    have e1 : vs[1]'(by omega) = v1 := by
      have := h2 1 (.tr Z1 s1 v1) _ rfl g1
      generalize vs[1]'(by omega) = q at this
      cases this; rfl
    have e2 : vs[2]'(by omega) = v2 := by
      have := h2 2 (.tr Z2 s2 v2) _ rfl g2
      generalize vs[2]'(by omega) = q at this
      cases this; rfl
    rw [e0] at g0
    rw [e1] at g1
    rw [e2] at g2
    cases hT' with
    | agg _ _ _ z hn' h1' h2' hzn' hap' =>
      have t0 : Tree w' (z 0) (.raw p') p := h2' 0 _ _ rfl g0
      have ep : p = p' := tree_raw t0
      subst ep
      have t1 : Tree w' (z 1) s1' v1 := h2' 1 _ _ rfl g1
      have t2 : Tree w' (z 2) s2' v2 := h2' 2 _ _ rfl g2
      have hO : ∀ b, ¬ Own Γ h ρ b → ¬ Own Γ h' ρ b := by
        rintro b hno (hb | ⟨k1, e1, hk1, hb⟩)
        · exact hno (.inl hb)
        · obtain ⟨e0, hk0, _⟩ := lsH_lookup hh hk1
          exact hno (.inr ⟨k1, e0, hk0, hb⟩)
      have zz : ∀ i b, z i b → b < w'.heap.size ∧ ¬ Own Γ h' ρ b := fun i b hb => ⟨Nat.lt_of_lt_of_le (hZ b (hzn' i b hb)).1 hC.size, hO b (hZ b (hzn' i b hb)).2⟩
      obtain ⟨b0, T0, cur, p1, p2, p3, p4⟩ := I.ent kb _ hkb
      have hbO : Own Γ h ρ b0 := .inr ⟨kb, _, hkb, by rw [p1]; rfl⟩
      have hblt : b0 < w.heap.size := (I.new kb _ b0 hkb (by rw [p1]; rfl)).2
      have hbk : w'.heap[b0]? = w.heap[b0]? := hC.block b0 hblt fun hz => (hZ b0 hz).2 hbO
      have J : Iv Γ ⟨t', ins kb (.box [.sv (.raw p), .sv (.tr (z 1) s1' v1), .sv (.tr (z 2) s2' v2)]) h'⟩ ρ a w' := by
        refine I'.convO hkb' fun hE => ?_
        obtain ⟨b1, T1, cur1, q1, q2, q3, q4⟩ := hE
        have hbb : b1 = b0 := by
          rw [p1] at q1
          simp only [Value.pointer.injEq, Option.some.injEq, Addr.mk.injEq, and_true] at q1
          exact q1.symm
        subst hbb
        rw [hbk, p2] at q2
        cases q2
        refine ⟨b1, _, cur, p1, by rw [hbk, p2], by rw [p3]; rfl, fun i lv u' hi hu => ?_⟩
        match i, hi with
        | 0, hi => cases hi; exact q4 0 _ u' rfl hu
        | 1, hi =>
          cases hi
          obtain ⟨r1, r2⟩ := p4 1 _ u' rfl hu
          have hu' : u' = v1 := by
            have r1 : Rep w _ (.tr Z1 s1 v1) u' := r1
            cases r1; rfl
          subst hu'
          exact ⟨.tr _ _ _ t1 (zz 1), r2⟩
        | 2, hi =>
          cases hi
          obtain ⟨r1, r2⟩ := p4 2 _ u' rfl hu
          have hu' : u' = v2 := by
            have r1 : Rep w _ (.tr Z2 s2 v2) u' := r1
            cases r1; rfl
          subst hu'
          exact ⟨.tr _ _ _ t2 (zz 2), r2⟩
        | i + 3, hi => simp at hi
      exact ⟨_, he, _, hk k' s1' s2' (z 1) (z 2) (fun b h1 h2 => absurd (hap' 1 2 b h1 h2) (by decide)) (hzn' 1) (hzn' 2) hR', ⟨ρ, J.put (d := some d) (by simpa [dstOk] using hd) (Rep.raw _)⟩, fun h => h.elim⟩
end
end Go.Abs
