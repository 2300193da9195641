/- The engine, part 3: a layer of plain values over the model. No condition. -/
import Derived.Test.YtgofadkgmogbgaaEg2
import Derived.Test.YtgofadkgmogbgaaEg1
import Derived.Lib.AppendStr
import Derived.Laws.StructEq
/- A region that draws its order and appends to a row of ours beside loads that do not read that row. No condition. -/
namespace Go.Abs
open Go Go.RowKit Go.Eager
set_option linter.unusedVariables false
set_option linter.unusedSimpArgs false
/-- All but the block of one value is as it was. -/
structure ExtK (v : Value) (w w' : World) : Prop where
  os : w'.os = w.os
  tape : w'.tape = w.tape
  output : w'.output = w.output
  size : w.heap.size ≤ w'.heap.size
  block : ∀ b, b < w.heap.size → blk v ≠ some b → w'.heap[b]? = w.heap[b]?
theorem ExtK.refl (v : Value) (w : World) : ExtK v w w := ⟨rfl, rfl, rfl, Nat.le_refl _, fun _ _ _ => rfl⟩
theorem ExtK.trans {v : Value} (a b c : World) (h : ExtK v a b) (k : ExtK v b c) : ExtK v a c :=
  ⟨k.os.trans h.os, k.tape.trans h.tape, k.output.trans h.output, Nat.le_trans h.size k.size, fun d hd hn => (k.block d (Nat.lt_of_lt_of_le hd h.size) hn).trans (h.block d hd hn)⟩
theorem ExtK.of {v : Value} {w w' : World} (h : Ext w w') : ExtK v w w' := ⟨h.os, h.tape, h.output, h.size, fun b hb _ => h.block b hb⟩
def clsX : Op → Nat
  | .call { callee := .builtin .append, .. } => 3
  | o => clsOp o
def wpX (P : Program) (ops : Array Oper) (v0 : Value) (Q : Act → World → Prop) : List (Oper × Nat) → Act → World → Prop
  | [], a, w => Q a w
  | (o, c) :: l, a, w =>
    if c ≤ 1 then ∃ v, EagerX.Stands (ExtK v0) P ops c o a w v ∧ wpX P ops v0 Q l (a.put o.dst v) w
    else if Region.wanted o (yielded ops a.tmps) then oN P o a w (fun v w' => (c ≠ 2 → ExtK v0 w w') ∧ wpX P ops v0 Q l (a.put o.dst v) w') else wpX P ops v0 Q l (a.put o.dst undef) w
theorem pairs_rangeX (v0 : Value) (L : List Oper) (cl : Nat → Nat) : ∀ (l : List Oper) (k : Nat), (∀ j, l[j]? = L[k + j]?) → ∀ (Q : Act → World → Prop) (P : Program) (a : Act) (w : World), (∀ j o, L[j]? = some o → cl j = clsX o.op) →
    wpX P L.toArray v0 Q (l.map fun o => (o, clsX o.op)) a w → EagerX.wpE (ExtK v0) P L.toArray cl Q (List.range' k l.length) a w
  | [], k, _, Q, P, a, w, _, h => h
  | o :: l, k, hl, Q, P, a, w, hcl, h => by
    have h0 : L[k]? = some o := by simpa using (hl 0).symm
    have hl' : ∀ j, l[j]? = L[k + 1 + j]? := fun j => by have := hl (j + 1); simpa [Nat.add_assoc, Nat.add_comm 1 j] using this
    have hc := hcl k o h0
    rw [List.length_cons, List.range'_succ]
    unfold EagerX.wpE
    have h0' : L.toArray[k]? = some o := by simpa using h0
    simp only [h0']
    simp only [List.map_cons] at h
    unfold wpX at h
    by_cases h1 : cl k ≤ 1
    · rw [if_pos h1]
      rw [if_pos (by rw [← hc]; exact h1)] at h
      obtain ⟨v, h4, h5⟩ := h
      exact ⟨v, by rw [hc]; exact h4, pairs_rangeX v0 L cl l (k + 1) hl' Q P _ w hcl h5⟩
    · rw [if_neg h1]
      rw [if_neg (by rw [← hc]; exact h1)] at h
      unfold EagerX.opN
      simp only [h0']
      split
      · rename_i hw; rw [if_pos hw] at h
        exact oN_mono (fun v w' hk => ⟨fun h2 => hk.1 (by rw [← hc]; exact h2), pairs_rangeX v0 L cl l (k + 1) hl' Q P _ _ hcl hk.2⟩) h
      · rename_i hw; rw [if_neg hw] at h
        exact pairs_rangeX v0 L cl l (k + 1) hl' Q P _ _ hcl h
/-- What stands last in a block; the frame may be said in other words behind it. -/
theorem ok_lastL {Γ : Ctx} {σ : St} {Q : Exit → St → Prop} {x : Code} (h : ∀ K : St → Prop, (∀ σ' σ'', Le Γ σ'' σ' → Q .normal σ'' → K σ') → Ok Γ x σ (thenQ K Q)) : Ok Γ x σ Q := by
  intro a w I
  refine wp_mono (h (fun σ' => ∃ σ'', Le Γ σ'' σ' ∧ Q .normal σ'') (fun σ' σ'' h1 h2 => ⟨σ'', h1, h2⟩) a w I) ?_
  rintro e a' w' ⟨σ', h1, h2⟩
  cases e with
  | normal => obtain ⟨σ'', h3, h4⟩ := h1; exact ⟨σ'', h4, h3 _ _ h2⟩
  | _ => exact ⟨σ', h1, h2⟩
/-- As ok_seq: the frame may be said in other words between the two. -/
theorem ok_seqL {Γ : Ctx} {σ : St} {Q : Exit → St → Prop} {x y : Code} (h : ∀ K : St → Prop, (∀ σ' σ'', Le Γ σ'' σ' → Ok Γ y σ'' Q → K σ') → Ok Γ x σ (thenQ K Q)) : Ok Γ (.seq x y) σ Q :=
  ok_seq fun K hK => h K fun σ' σ'' h1 h2 => hK σ' (h2.le h1)
/-- The frame's context, where one name's value is said. -/
@[reducible] def Ctx.at (Γ : Ctx) (ki : Nat) (v0 : Value) : Ctx := { Γ with inn := fun k => if k = ki then some v0 else Γ.inn k }
theorem Iv.at {Γ : Ctx} {σ : St} {ρ : Nat → Value} {a : Act} {w : World} (I : Iv Γ σ ρ a w) (ki : Nat) : Iv (Γ.at ki (ρ ki)) σ ρ a w :=
  ⟨I.dfr, I.size, ⟨I.frm.os, I.frm.tape, I.frm.output, I.frm.size, I.frm.block⟩, I.tmp, I.ent, I.new, I.sep, I.out, fun k v h => by
    simp only [Ctx.at] at h
    split at h
    · rename_i hk; subst hk; cases h; rfl
    · exact I.inn k v h⟩
theorem Iv.unat {Γ : Ctx} {σ : St} {ρ : Nat → Value} {a : Act} {w : World} {ki : Nat} {v0 : Value} (I : Iv (Γ.at ki v0) σ ρ a w) (hi : Γ.inn ki = none) : Iv Γ σ ρ a w :=
  ⟨I.dfr, I.size, ⟨I.frm.os, I.frm.tape, I.frm.output, I.frm.size, I.frm.block⟩, I.tmp, I.ent, I.new, I.sep, I.out, fun k v h => by
    refine I.inn k v ?_
    simp only [Ctx.at]
    split
    · rename_i hk; subst hk; rw [hi] at h; cases h
    · exact h⟩
def RunX (Γ : Ctx) (ops : Array Oper) (v0 : Value) (l : List (Oper × Nat)) (σ : St) (K : St → Prop) : Prop :=
  l.all (fun p => dstOk Γ p.1) = true → ∀ a w, Inv Γ σ a w → wpX Γ.P ops v0 (fun a' w' => ∃ σ', K σ' ∧ Inv Γ σ' a' w') l a w
theorem ok_region_x {Γ : Ctx} {σ : St} {K : St → Prop} {Q : Exit → St → Prop} {id : Nat} {L : List Oper} (ki : Nat) (hi : Γ.inn ki = none) (hm : Γ.P.follows .mixedOrders = true)
    (hc : (closedB L.toArray (waits L) && Region.noSelect L.toArray && chk L.toArray (fun i => match L[i]? with | some o => clsX o.op | none => 2) (waits L) (List.range' 0 L.length) (Array.replicate L.length false)) = true)
    (hd : (L.map fun o => (o, clsX o.op)).all (fun p => dstOk Γ p.1) = true) (h : ∀ v0, RunX (Γ.at ki v0) L.toArray v0 (L.map fun o => (o, clsX o.op)) σ K) : Ok Γ (.region id L.toArray true) σ (thenQ K Q) := by
  rintro a w ⟨ρ, I⟩
  obtain ⟨ρ1, I1⟩ := Inv.drew ⟨ρ, I⟩
  have I2 := I1.at ki
  have h1 := h (ρ1 ki) hd a _ ⟨ρ1, I2⟩
  refine EagerX.wp_region_eager (E := ExtK (ρ1 ki)) (ExtK.refl _) ExtK.trans (fun i => match L[i]? with | some o => clsX o.op | none => 2) (waits L) (List.range' 0 L.length) hm (by
    simp only [Bool.and_eq_true] at hc ⊢
    exact ⟨⟨⟨hc.1.1, hc.1.2⟩, by simp⟩, by simpa using hc.2⟩) (pairs_rangeX (ρ1 ki) L _ L 0 (by simp) _ _ a _ (fun j o ho => by simp [ho]) ?_)
  have mono : ∀ (l : List (Oper × Nat)) (a : Act) (w : World), wpX Γ.P L.toArray (ρ1 ki) (fun a' w' => ∃ σ', K σ' ∧ Inv (Γ.at ki (ρ1 ki)) σ' a' w') l a w → wpX Γ.P L.toArray (ρ1 ki) (fun a' w' => ∃ σ', K σ' ∧ Inv Γ σ' a' w') l a w := by
    intro l
    induction l with
    | nil => rintro a w ⟨σ', hk, ρ', J⟩; exact ⟨σ', hk, ρ', J.unat hi⟩
    | cons p l ih =>
      intro a w h
      obtain ⟨o, c⟩ := p
      unfold wpX at h ⊢
      split
      · rename_i hc; rw [if_pos hc] at h
        obtain ⟨v, h2, h3⟩ := h
        exact ⟨v, h2, ih _ _ h3⟩
      · rename_i hc; rw [if_neg hc] at h
        split
        · rename_i hw; rw [if_pos hw] at h; exact oN_mono (fun v w' hk => ⟨hk.1, ih _ _ hk.2⟩) h
        · rename_i hw; rw [if_neg hw] at h; exact ih _ _ h
  have h2 := mono _ _ _ h1
  refine wpX_mono' h2
where
  wpX_mono' {Γ : Ctx} {K : St → Prop} {Q : Exit → St → Prop} {L : List Oper} {v0 : Value} {l : List (Oper × Nat)} {a : Act} {w : World} (h : wpX Γ.P L.toArray v0 (fun a' w' => ∃ σ', K σ' ∧ Inv Γ σ' a' w') l a w) : wpX Γ.P L.toArray v0 (fun a' w' => ∃ σ', thenQ K Q .normal σ' ∧ Inv Γ σ' a' w') l a w := h
section
variable {Γ : Ctx} {ops : Array Oper} {l : List (Oper × Nat)} {σ : St} {t : List (Nat × LV)} {h : List (Nat × Ent)} {K : St → Prop} {v0 : Value} {c d ty : Nat} {ps : String} {af : Array Edge} {x y : Operand}
theorem x_nil (h : K σ) : RunX Γ ops v0 [] σ K := fun _ a w I => ⟨σ, h, I⟩
theorem x_le {σ' : St} (hl : Le Γ σ' σ) (hk : RunX Γ ops v0 l σ' K) : RunX Γ ops v0 l σ K := fun hd a w I => hk hd a w (hl a w I)
/-- An operation that the world does not matter to. -/
theorem x_pure' {o : Oper} (hg : o.guard = none) (h : ∀ a w ρ, Iv Γ σ ρ a w → PureOk Γ σ ρ a w o fun lv => RunX Γ ops v0 l (σ.put o.dst lv) K) : RunX Γ ops v0 ((o, 0) :: l) σ K := by
  intro hd a w ⟨ρ, I⟩
  simp only [List.all_cons, Bool.and_eq_true] at hd
  obtain ⟨lv, v, hk, hv, hrun⟩ := h a w ρ I
  unfold wpX
  rw [if_pos (by omega)]
  exact ⟨v, .inl ⟨wanted_none hg _, fun w' _ => hrun w'⟩, hk hd.2 _ _ ⟨ρ, I.put (dstOk_spec hd.1) hv⟩⟩
theorem x_pure {o : Oper} (hg : o.guard = none) (h : stepP Γ.P σ o.op fun lv => RunX Γ ops v0 l (σ.put o.dst lv) K) : RunX Γ ops v0 ((o, 0) :: l) σ K := x_pure' hg fun _ _ _ I => stepP_sound I h
/-- What a slot's word alone says of its value. -/
def LV.det : LV → Bool
  | .own _ => true
  | .sv (.raw _) => true
  | .sv (.agg l) => l.all isRaw
  | _ => false
theorem isRaw_inv0 {s : SV} (h : isRaw s = true) : ∃ u, s = .raw u := by cases s <;> first | exact ⟨_, rfl⟩ | cases h
theorem det_eq {w w' : World} {O O' : Nat → Prop} {ρ : Nat → Value} {lv : LV} {u v : Value} (hd : lv.det = true) (h1 : LRep w O ρ lv u) (h2 : LRep w' O' ρ lv v) : u = v := by
  cases lv with
  | own k => exact (show u = ρ k from h1).trans (show v = ρ k from h2).symm
  | sv s =>
    cases s with
    | raw r => exact (rep_raw' h1).trans (rep_raw' h2).symm
    | agg l =>
      obtain ⟨us, rfl, hu⟩ := agg_inv h1
      obtain ⟨vs, rfl, hv⟩ := agg_inv h2
      congr 1
      apply Array.ext (by omega)
      intro i hi hi'
      cases h1 with
      | agg _ _ _ _ q1 =>
        cases h2 with
        | agg _ _ _ _ q2 =>
          have hlt : i < l.length := by omega
          have hs := List.getElem?_eq_getElem hlt
          obtain ⟨r, hr⟩ := isRaw_inv0 (List.all_eq_true.1 hd _ (List.getElem_mem hlt))
          rw [hr] at hs
          have e1 := rep_raw' (q1 i _ _ hs (Array.getElem?_eq_getElem hi))
          have e2 := rep_raw' (q2 i _ _ hs (Array.getElem?_eq_getElem hi'))
          rw [e1, e2]
    | _ => cases hd
  | _ => cases hd
/-- The frame without the row that is appended to, at another world. -/
theorem Iv.loose {ρ : Nat → Value} {a : Act} {w w' : World} (I : Iv Γ σ ρ a w) {ki : Nat} {e : Ent} (hki : σ.h.lookup ki = some e) (hE : ExtK (ρ ki) w w') : Iv Γ ⟨σ.t, dropH ki σ.h⟩ ρ a w' := by
  have J : Iv Γ ⟨σ.t, dropH ki σ.h⟩ ρ a w := I.sub (fun _ _ h => h) fun k e h => (dropH_lookup h).1
  have hown : ∀ b, blk (ρ ki) = some b → Own Γ σ.h ρ b := fun b hb => .inr ⟨ki, e, hki, hb⟩
  -- what is not owned is as it was
  have kp : Kp w (Own Γ σ.h ρ) w' (Own Γ (dropH ki σ.h) ρ) := by
    intro b hb hno
    refine ⟨hE.block b hb fun h => hno (hown b h), fun h => ?_⟩
    rcases h with h | ⟨k, e, hk, hb'⟩
    · exact hno (.inl h)
    · exact hno (.inr ⟨k, e, (dropH_lookup hk).1, hb'⟩)
  refine ⟨I.dfr, I.size, ⟨hE.os.trans I.frm.os, hE.tape.trans I.frm.tape, hE.output.trans I.frm.output, Nat.le_trans I.frm.size hE.size, fun b hb hm => ?_⟩, fun t lv ht => (I.tmp t lv ht).kp kp, fun k e' hk => ?_, fun k e' b hk hb => ?_, J.sep, I.out, I.inn⟩
  · refine (hE.block b (Nat.lt_of_lt_of_le hb I.frm.size) fun h => ?_).trans (I.frm.block b hb hm)
    rcases (I.new ki e b hki h).1 with h1 | h1
    · omega
    · exact hm h1
  · obtain ⟨h1, h2⟩ := dropH_lookup hk
    exact (I.ent k e' h1).step kp (fun b hb => hE.block b (I.new k e' b h1 hb).2 fun h => h2 (I.sep k ki e' e b h1 hki hb h)) rfl fun _ _ _ _ _ _ h => h
  · obtain ⟨h1, h2⟩ := dropH_lookup hk
    exact ⟨(I.new k e' b h1 hb).1, Nat.lt_of_lt_of_le (I.new k e' b h1 hb).2 hE.size⟩
/-- A load that does not read the row that is appended to. -/
theorem x_read {o : Oper} (ki : Nat) {e : Ent} (lv : LV) (hg : o.guard = none) (hki : σ.h.lookup ki = some e) (hin : Γ.inn ki = some v0) (hdet : lv.det = true) (hs : ∀ a w ρ, Iv Γ ⟨σ.t, dropH ki σ.h⟩ ρ a w → ReadOk Γ ⟨σ.t, dropH ki σ.h⟩ ρ a w o fun l => l = lv)
    (hk : RunX Γ ops v0 l (σ.put o.dst lv) K) : RunX Γ ops v0 ((o, 1) :: l) σ K := by
  intro hd a w ⟨ρ, I⟩
  simp only [List.all_cons, Bool.and_eq_true] at hd
  have hρ : ρ ki = v0 := I.inn ki v0 hin
  have J : ∀ w', ExtK v0 w w' → Iv Γ ⟨σ.t, dropH ki σ.h⟩ ρ a w' := fun w' hE => I.loose hki (by rw [hρ]; exact hE)
  obtain ⟨l1, v, hl1, hv, hrun⟩ := hs a w ρ (J w (ExtK.refl _ _))
  rw [hl1] at hv
  unfold wpX
  rw [if_pos (by omega)]
  refine ⟨v, .inl ⟨wanted_none hg _, fun w' hw' => ?_⟩, hk hd.2 _ _ ⟨ρ, I.put (dstOk_spec hd.1) ?_⟩⟩
  · obtain ⟨l2, v', hl2, hv', hrun'⟩ := hs a w' ρ (J w' (hw'.resolve_left (by omega)))
    rw [hl2] at hv'
    rw [det_eq hdet hv hv']
    exact hrun' w' (Ext.refl w')
  · -- the word itself, in the whole frame
    cases lv with
    | own k => exact hv
    | sv s =>
      cases s with
      | raw r => have := rep_raw' (show Rep w _ _ v from hv); subst this; exact Rep.raw _
      | agg ss =>
        have h1 : Rep w _ (.agg ss) v := hv
        obtain ⟨vs, rfl, hn⟩ := agg_inv h1
        cases h1 with
        | agg _ _ q1 q2 q3 =>
          refine Rep.agg _ _ q1 q2 fun i s u hi hu => ?_
          obtain ⟨r, rfl⟩ := isRaw_inv0 (List.all_eq_true.1 hdet s (List.mem_of_getElem? hi))
          have := rep_raw' (q3 i _ u hi hu)
          subst this; exact Rep.raw _
      | _ => cases hdet
    | _ => cases hdet
/-- An operation that leaves all as it is. -/
theorem x_x {o : Oper} (hg : o.guard = none) (hc : 1 < c) (h : ∀ a w ρ, Iv Γ σ ρ a w → dstOk Γ o = true → XOk Γ a w o True fun σ' => RunX Γ ops v0 l σ' K) : RunX Γ ops v0 ((o, c) :: l) σ K := by
  intro hd a w ⟨ρ, I⟩
  simp only [List.all_cons, Bool.and_eq_true] at hd
  have h1 := h a w ρ I hd.1
  unfold wpX
  rw [if_neg (by omega), if_pos (wanted_none hg _)]
  exact oN_mono (fun v w' ⟨σ', hk, hi, hx⟩ => ⟨fun _ => ExtK.of (hx trivial), hk hd.2 _ _ hi⟩) h1
/-- An operation that stands alone. -/
theorem x_a {o : Oper} (hg : o.guard = none) (h : ∀ a w ρ, Iv Γ σ ρ a w → dstOk Γ o = true → XOk Γ a w o False fun σ' => RunX Γ ops v0 l σ' K) : RunX Γ ops v0 ((o, 2) :: l) σ K := by
  intro hd a w ⟨ρ, I⟩
  simp only [List.all_cons, Bool.and_eq_true] at hd
  have h1 := h a w ρ I hd.1
  unfold wpX
  rw [if_neg (by omega), if_pos (wanted_none hg _)]
  exact oN_mono (fun v w' ⟨σ', hk, hi, hx⟩ => ⟨fun h => (h rfl).elim, hk hd.2 _ _ hi⟩) h1
end
def XOkK (Γ : Ctx) (a : Act) (w : World) (o : Oper) (v0 : Value) (K : St → Prop) : Prop := oN Γ.P o a w fun v w' => (∃ σ', K σ' ∧ Inv Γ σ' (a.put o.dst v) w') ∧ ExtK v0 w w'
section
variable {Γ : Ctx} {σ : St} {ρ : Nat → Value} {a : Act} {w : World}
theorem ok_append_atX (I : Iv Γ σ ρ a w) {o : Oper} {x y : Operand} {t e n by_ k d : Nat} {z : Value} {T : Nat} {l r : List SV} {K : St → Prop} (ho : o.op = .call { callee := .builtin .append, args := #[x, y], argTypes := #[t, t] })
    (hd : o.dst = some d) (hdn : d < Γ.n) (he : elOf Γ.P t = some (e, n)) (hz : zeroOf Γ.P e = some z) (hzn : z.cells.size = n) (hb : bytOf Γ.P e = some by_)
    (hX : a.eval x = ρ k) (hnm : ∀ t lv, σ.t.lookup t = some lv → lv.mentions k = false) (hk : σ.h.lookup k = some (.row n T l)) (hT : T = e) (hi : Γ.inn k = none) (hbox : ∀ k1 e1, k1 ≠ k → σ.h.lookup k1 = some e1 → e1.mentions k = false)
    (hy : σ.ev y = .sv (.sl n r)) (hr : r ≠ []) (h1 : ∀ s ∈ r, ((∃ c, s = .agg c) ∨ s.one = true)) (h63 : l.length + r.length ≤ maxLen) (hbytes : (l.length + r.length) * by_ ≤ 140737488355328)
    (hK : K ⟨(d, .own k) :: σ.t, ins k (.row n T (l ++ r)) σ.h⟩) : XOkK Γ a w o (ρ k) K := by
  subst hT
  obtain ⟨hu, hs⟩ := elOf_spec he
  have hY := I.ev y
  rw [hy] at hY
  obtain ⟨hz0, xs, vals0, hown, hrep⟩ := I.ent k _ hk
  obtain ⟨b, off, c, hyv, news, vals1, n1, n2, n3, n4⟩ := news_of hY hr h1
  unfold zeroOf at hz
  unfold szOf at hs
  unfold bytOf at hb
  cases hinfo : Γ.P.info? T with
  | none => simp [hinfo] at hz
  | some i =>
    simp only [hinfo, Option.bind_some, Option.map_some, Option.some.injEq] at hz hs hb
    obtain ⟨v', w', h2, h3, h4, h5⟩ := run_append_mine (P := Γ.P) w t o.type T i z n by_ hu hinfo hz hs hb hzn hz0 (ρ k) l.length xs hown ⟨b, off, none⟩ r.length c news n1 n2 n3 h63 hbytes
    have run : (execOp a.eval o).run Γ.P w = .ok (.value v') w' := by
      simp [execOp, ho, resolve, invoke, builtin, hX, hyv, h2]
    unfold XOkK oN
    rw [run]
    refine ⟨⟨_, hK, ⟨upd ρ k v', ?_⟩⟩, ⟨h4.os, h4.tape, h4.output, h4.size, fun b hb hn => h4.block b hb fun h => hn h.symm⟩⟩
    have kp : Kp w (Own Γ σ.h ρ) w' (Own Γ (ins k (.row n T (l ++ r)) σ.h) (upd ρ k v')) := by
      intro b hlt hno
      refine ⟨h4.block b hlt fun hbk => hno (.inr ⟨k, _, hk, hbk.symm⟩), ?_⟩
      rintro (hO | ⟨k1, e1, hk1, hb1⟩)
      · exact hno (.inl hO)
      · rw [lookup_ins] at hk1
        by_cases hkk : k1 = k
        · subst hkk
          rw [upd_at] at hb1
          rcases (h5 b hb1).2 with h | h
          · omega
          · exact hno (.inr ⟨k1, _, hk, h⟩)
        · rw [if_neg hkk] at hk1
          rw [upd_ne _ _ hkk] at hb1
          exact hno (.inr ⟨k1, e1, hk1, hb1⟩)
    have I' := I.heap (t' := σ.t) (k := k) (e := .row n T (l ++ r)) (v' := v') (w' := w') (fun t lv h => .inl h)
      (.inr ⟨hnm, hbox⟩) ⟨h4.os, h4.tape, h4.output, h4.size⟩ (fun b hlt hne => h4.block b hlt fun hbk => hne _ hk hbk.symm)
      (fun b hb => ⟨(h5 b hb).1, (h5 b hb).2.imp id fun h => ⟨_, hk, h⟩⟩) (by rw [hi]; intro v h; cases h) (by
        refine ⟨hz0, xs ++ news, fun i => if i < l.length then vals0 i else vals1 (i - l.length), ?_, ?_⟩
        · rw [upd_at, List.length_append]; exact h3
        · intro i s hs'
          have hxl : xs.length = l.length * n := hown.1
          by_cases hil : i < l.length
          · simp only [hil, if_true]
            rw [List.getElem?_append_left hil] at hs'
            obtain ⟨r1, r2, r3⟩ := hrep i s hs'
            refine ⟨r1.kp kp, r2, fun j u hu' => ?_⟩
            have hh := r3 j u hu'
            rw [List.getElem?_append_left (List.getElem?_eq_some_iff.1 hh).1]; exact hh
          · simp only [hil, if_false]
            rw [List.getElem?_append_right (by omega)] at hs'
            obtain ⟨r1, r2, r3⟩ := n4 _ s hs'
            refine ⟨r1.kp kp, r2, fun j u hu' => ?_⟩
            have hh := r3 j u hu'
            have hge : l.length * n ≤ i * n := Nat.mul_le_mul_right _ (by omega)
            rw [List.getElem?_append_right (by omega), hxl]
            rw [show i * n + j - l.length * n = (i - l.length) * n + j by rw [Nat.sub_mul]; omega]
            exact hh)
    have := I'.put (d := some d) (lv := .own k) (v := v') (by simpa using hdn) (upd_at ρ k v').symm
    rw [hd]
    exact this
end
section
variable {Γ : Ctx} {ops : Array Oper} {l : List (Oper × Nat)} {t : List (Nat × LV)} {h : List (Nat × Ent)} {K : St → Prop} {v0 : Value} {c d ty : Nat} {ps : String} {af : Array Edge} {x y : Operand}
theorem x_app {S e n by_ k : Nat} (z : Value) {r q : List SV} (he : elOf Γ.P S = some (e, n)) (hz : zeroOf Γ.P e = some z) (hzn : z.cells.size = n) (hb : bytOf Γ.P e = some by_)
    (hx : St.ev ⟨t, h⟩ x = .own k) (hh : h.lookup k = some (.row n e r)) (hin : Γ.inn k = some v0) (hf : St.free ⟨t, h⟩ d = true) (hi : Γ.inn d = none) (hy : St.ev ⟨t, h⟩ y = .sv (.sl n q)) (hq : q ≠ []) (h1 : ∀ s ∈ q, ((∃ c, s = .agg c) ∨ s.one = true)) (h63 : r.length + q.length ≤ maxLen) (hbytes : (r.length + q.length) * by_ ≤ 140737488355328)
    (hk : RunX Γ ops v0 l ⟨(d, .own d) :: t, ins d (.row n e (r ++ q)) (ins d (.row n e r) (dropH k h))⟩ K) :
    RunX Γ ops v0 ((⟨some d, .call { callee := .builtin .append, args := #[x, y], argTypes := #[S, S] }, ty, ps, af, none⟩, 3) :: l) ⟨t, h⟩ K := by
  intro hd a w ⟨ρ, I⟩
  simp only [List.all_cons, Bool.and_eq_true] at hd
  have hX : a.eval x = ρ k := by have := I.ev x; rw [hx] at this; exact this
  obtain ⟨f1, f2⟩ := free_rekey (k := k) (e := .row n e r) hf
  have hv : ρ k = v0 := I.inn k v0 hin
  have h2 := ok_append_atX (σ := ⟨t, ins d (.row n e r) (dropH k h)⟩) (K := fun σ' => RunX Γ ops v0 l σ' K) (o := ⟨some d, .call { callee := .builtin .append, args := #[x, y], argTypes := #[S, S] }, ty, ps, af, none⟩) (I.rekey hf hh hi) (k := d) rfl rfl (by simpa [dstOk] using hd.1) he hz hzn hb (by rw [upd_at]; exact hX) f1 (by rw [lookup_ins, if_pos rfl]) rfl hi f2 hy hq h1 h63 hbytes hk
  rw [upd_at, hv] at h2
  unfold wpX
  rw [if_neg (by omega), if_pos (wanted_none rfl _)]
  exact oN_mono (fun v w' ⟨⟨σ', hk, hi⟩, hx⟩ => ⟨fun _ => hx, hk hd.2 _ _ hi⟩) h2
/-- A load of an element of a row of rows, alone. -/
theorem rd_ldl {r : List LV} {lv : LV} {S k i T : Nat} {ρ : Nat → Value} {a : Act} {w : World} {o : Oper} (ho : o.op = .load S x) (hg : aggOf Γ.P S = some false) (hx : St.ev ⟨t, h⟩ x = .eptr k 1 i 0) (hh : h.lookup k = some (.rowl T r)) (hi : r[i]? = some lv) (I : Iv Γ ⟨t, h⟩ ρ a w) : ReadOk Γ ⟨t, h⟩ ρ a w o fun l => l = lv := by
  have hX := I.ev x
  rw [hx] at hX
  obtain ⟨b, n, cc, hr, hv⟩ := hX
  obtain ⟨xs, hown, hrep⟩ := I.ent _ _ hh
  have hlt : i < xs.length := by have := hown.1; have := (List.getElem?_eq_some_iff.1 hi).1; omega
  have hu := List.getElem?_eq_getElem hlt
  refine ⟨lv, xs[i], rfl, (hrep i lv _ hi hu).1, fun w' hx => ?_⟩
  rw [hr] at hown
  have h4 := hown.cells (g := b) rfl i _ hu
  rw [addr_add, Nat.zero_add] at h4
  simp only [Nat.mul_one, Nat.add_zero] at hv
  simp [execOp, ho, hv, run_loadAt_one hg (Ext.cell hx h4)]
theorem pu_ial {r : List LV} {k T S e n : Nat} {kk : IntKind} {i : Int} {ρ : Nat → Value} {a : Act} {w : World} {o : Oper} {K : LV → Prop} (ho : o.op = .indexAddr S x y) (he : elOf Γ.P S = some (e, n)) (hn : n = 1) (hx : St.ev ⟨t, h⟩ x = .own k) (hh : h.lookup k = some (.rowl T r)) (hy : St.ev ⟨t, h⟩ y = .sv (.raw (.int kk i))) (h0 : 0 ≤ i) (hi : i.toNat < r.length) (hk : K (.eptr k 1 i.toNat 0)) (I : Iv Γ ⟨t, h⟩ ρ a w) : PureOk Γ ⟨t, h⟩ ρ a w o K := by
  subst hn
  have hX := I.ev x
  rw [hx] at hX
  have hx' : a.eval x = ρ k := hX
  obtain ⟨xs, hown, _⟩ := I.ent _ _ hh
  rcases hown.2 with ⟨_, hn⟩ | ⟨g, cap, cur, hr, _⟩
  · omega
  · refine ⟨_, .pointer (some ⟨g, i.toNat * 1, none⟩), hk, ⟨g, r.length, cap, hr, by simp⟩, fun w' => ?_⟩
    have := run_indexAt_sl (P := Γ.P) he g 0 r.length cap kk i h0 hi w'
    simp only [Nat.mul_one] at this ⊢
    simp [execOp, ho, hx', hr, ev_raw I hy, this]
theorem pu_lenl {r : List LV} {S T k : Nat} {ρ : Nat → Value} {a : Act} {w : World} {o : Oper} {K : LV → Prop} (ho : o.op = .call { callee := .builtin .len, args := #[x], argTypes := #[S] }) (he : (elOf Γ.P S).isSome = true) (hx : St.ev ⟨t, h⟩ x = .own k) (hh : h.lookup k = some (.rowl T r)) (hk : K (.sv (.raw (.int .i64 r.length)))) (I : Iv Γ ⟨t, h⟩ ρ a w) : PureOk Γ ⟨t, h⟩ ρ a w o K := by
  obtain ⟨e, he⟩ := elOf_some he
  have hX := I.ev x
  rw [hx] at hX
  have hx' : a.eval x = ρ k := hX
  obtain ⟨xs, hown, _⟩ := I.ent _ _ hh
  refine ⟨_, _, hk, Rep.raw _, fun w' => ?_⟩
  rcases hown.2 with ⟨hr, hn⟩ | ⟨g, cap, cur, hr, _⟩
  · simp [execOp, ho, resolve, invoke, builtin, hx', hr, hn, Builtin.len_, run_underlying he, goInt]
  · simp [execOp, ho, resolve, invoke, builtin, hx', hr, Builtin.len_, run_underlying he, goInt]
/-- In such a region: the row of rows' length; an element's address. -/
theorem x_lenl {r : List LV} {S T k : Nat} (he : (elOf Γ.P S).isSome = true) (hx : St.ev ⟨t, h⟩ x = .own k) (hh : h.lookup k = some (.rowl T r)) (hk : RunX Γ ops v0 l ⟨(d, .sv (.raw (.int .i64 r.length))) :: t, h⟩ K) :
    RunX Γ ops v0 ((⟨some d, .call { callee := .builtin .len, args := #[x], argTypes := #[S] }, ty, ps, af, none⟩, 0) :: l) ⟨t, h⟩ K := x_pure' rfl fun _ _ _ I => pu_lenl rfl he hx hh hk I
theorem x_ial {r : List LV} {k T S e n : Nat} {kk : IntKind} {i : Int} (he : elOf Γ.P S = some (e, n)) (hn : n = 1) (hx : St.ev ⟨t, h⟩ x = .own k) (hh : h.lookup k = some (.rowl T r)) (hy : St.ev ⟨t, h⟩ y = .sv (.raw (.int kk i))) (h0 : 0 ≤ i) (hi : i.toNat < r.length) (hk : RunX Γ ops v0 l ⟨(d, .eptr k 1 i.toNat 0) :: t, h⟩ K) :
    RunX Γ ops v0 ((⟨some d, .indexAddr S x y, ty, ps, af, none⟩, 0) :: l) ⟨t, h⟩ K := x_pure' rfl fun _ _ _ I => pu_ial rfl he hn hx hh hy h0 hi hk I
theorem x_sub {p q : Int} {t1 t2 : Nat} (hx : St.ev ⟨t, h⟩ x = .sv (.raw (.int .i64 p))) (hy : St.ev ⟨t, h⟩ y = .sv (.raw (.int .i64 q))) (hb : -9223372036854775808 ≤ p - q ∧ p - q ≤ 9223372036854775807) (hk : RunX Γ ops v0 l ⟨(d, .sv (.raw (.int .i64 (p - q)))) :: t, h⟩ K) :
    RunX Γ ops v0 ((⟨some d, .binOp .sub t1 x y t2, ty, ps, af, none⟩, 0) :: l) ⟨t, h⟩ K :=
  x_pure rfl (by simp only [stepP, hx, hy]; exact ⟨.int .i64 (p - q), vBinP_of (by simp [vBin, vInt, IntWalk.i64_in _ hb]), hk⟩)
/-- A load of one cell of a box of ours; of an element of a row of rows; of a struct in a box that no one writes. -/
theorem x_ldb {S k j ki : Nat} {e : Ent} {cells : List LV} (lv : LV) (hki : h.lookup ki = some e) (hin : Γ.inn ki = some v0) (hdet : lv.det = true) (hg : aggOf Γ.P S = some false) (hx : St.ev ⟨t, h⟩ x = .ptr k j) (hh : (dropH ki h).lookup k = some (.box cells)) (hj : cells[j]? = some lv) (hk : RunX Γ ops v0 l ⟨(d, lv) :: t, h⟩ K) :
    RunX Γ ops v0 ((⟨some d, .load S x, ty, ps, af, none⟩, 1) :: l) ⟨t, h⟩ K :=
  x_read ki lv rfl hki hin hdet (fun a w ρ I => stepR_sound (K := fun l => l = lv) I (by
    have hx' : St.ev ⟨t, dropH ki h⟩ x = .ptr k j := hx
    simp only [stepR, hx']; exact ⟨cells, hh, _, hg, fun _ => ⟨lv, hj, rfl⟩, fun h => by cases h⟩)) hk
theorem x_ldl {S k i ki T : Nat} {e : Ent} {r : List LV} (lv : LV) (hki : h.lookup ki = some e) (hin : Γ.inn ki = some v0) (hdet : lv.det = true) (hg : aggOf Γ.P S = some false) (hx : St.ev ⟨t, h⟩ x = .eptr k 1 i 0) (hh : (dropH ki h).lookup k = some (.rowl T r)) (hi : r[i]? = some lv) (hk : RunX Γ ops v0 l ⟨(d, lv) :: t, h⟩ K) :
    RunX Γ ops v0 ((⟨some d, .load S x, ty, ps, af, none⟩, 1) :: l) ⟨t, h⟩ K :=
  x_read ki lv rfl hki hin hdet (fun a w ρ I => rd_ldl rfl hg (show St.ev ⟨t, dropH ki h⟩ x = .eptr k 1 i 0 from hx) hh hi I) hk
theorem x_lds {S ki n : Nat} {e : Ent} (r : List SV) (hki : h.lookup ki = some e) (hin : Γ.inn ki = some v0) (hdet : r.all isRaw = true) (hg : aggOf Γ.P S = some true) (hx : St.ev ⟨t, h⟩ x = .sv (.ptr (.agg r))) (hs : szOf Γ.P S = some n) (hn : n = r.length) (hk : RunX Γ ops v0 l ⟨(d, .sv (.agg r)) :: t, h⟩ K) :
    RunX Γ ops v0 ((⟨some d, .load S x, ty, ps, af, none⟩, 1) :: l) ⟨t, h⟩ K :=
  x_read ki (.sv (.agg r)) rfl hki hin hdet (fun a w ρ I => stepR_sound (K := fun l => l = .sv (.agg r)) I (by
    have hx' : St.ev ⟨t, dropH ki h⟩ x = .sv (.ptr (.agg r)) := hx
    simp only [stepR, hx']; exact ⟨_, hg, (fun h => by cases h), fun _ => ⟨r, rfl, by rw [hs, hn], trivial⟩⟩)) hk
end
section
variable {Γ : Ctx} {ops : Array Oper} {l : List (Oper × Nat)} {t : List (Nat × LV)} {h : List (Nat × Ent)} {K : St → Prop} {c d ty : Nat} {ps : String} {af : Array Edge} {x y : Operand}
/-- A store of a row of rows into a box of ours. -/
theorem q_stol {S k j k' : Nat} {cells cells' : List LV} {T : Nat} {r : List LV} (hs : szOf Γ.P S = some 1) (hx : St.ev ⟨t, h⟩ x = .ptr k j) (hh : h.lookup k = some (.box cells)) (hj : j < cells.length) (hy : St.ev ⟨t, h⟩ y = .own k') (hr : h.lookup k' = some (.rowl T r)) (hc : cells.take j ++ [LV.own k'] ++ cells.drop (j + 1) = cells') (hk : RunL Γ ops l ⟨t, ins k (.box cells') h⟩ K) :
    RunL Γ ops ((⟨none, .store S x y, ty, ps, af, none⟩, 2) :: l) ⟨t, h⟩ K := by
  subst hc
  refine run_x (ext := False) rfl (by omega) (fun h => (h rfl).elim) fun a w ρ I hd => ok_store_box (new := [.own k']) I rfl hd hx hh hs (by simp; omega) ?_ hk
  have hY := I.ev y
  rw [hy] at hY
  have hY' : a.eval y = ρ k' := hY
  obtain ⟨xs, hown, _⟩ := I.ent k' _ hr
  have h1 : (a.eval y).oneCell' = true := by
    rw [hY']
    rcases hown.2 with ⟨h0, _⟩ | ⟨g, cap, cur, h0, _⟩ <;> rw [h0] <;> rfl
  rw [oneCell_cells h1]
  refine ⟨rfl, fun i lv u hi hu => ?_⟩
  have : i = 0 := by cases i with | zero => rfl | succ i => simp at hi
  subst this
  simp at hi hu
  subst hi hu
  exact ⟨hY, h1⟩
/-- A struct put together of plain values; what is not named is zero. -/
theorem q_bldr {S : Nat} {parts : Array (Nat × Operand)} (us : List (Nat × Value)) (vs : List Value) (hp : parts.toList.map (fun p => (p.1, St.ev ⟨t, h⟩ p.2)) = us.map fun p => (p.1, LV.sv (.raw p.2))) (hb : Γ.P.built S us = some vs.toArray) (h1 : vs.all (·.oneCell') = true)
    (hk : RunL Γ ops l ⟨(d, .sv (.agg (vs.map .raw))) :: t, h⟩ K) : RunL Γ ops ((⟨some d, .build S parts, ty, ps, af, none⟩, c + 2) :: l) ⟨t, h⟩ K := by
  refine run_x (ext := True) rfl (by omega) (fun _ => trivial) fun a w ρ I hd => ?_
  have hparts : (parts.map fun p => (p.1, a.eval p.2)).toList = us := by
    rw [Array.toList_map]
    have key : ∀ (ps : List (Nat × Operand)) (us : List (Nat × Value)), ps.map (fun p => (p.1, St.ev ⟨t, h⟩ p.2)) = us.map (fun p => (p.1, LV.sv (.raw p.2))) → ps.map (fun p => (p.1, a.eval p.2)) = us := by
      intro ps
      induction ps with
      | nil => intro us h; cases us with | nil => rfl | cons => simp at h
      | cons p ps ih =>
        intro us h
        cases us with
        | nil => simp at h
        | cons u us =>
          simp only [List.map_cons, List.cons.injEq, Prod.mk.injEq] at h ⊢
          exact ⟨Prod.ext h.1.1 (ev_raw I h.1.2), ih us h.2⟩
    exact key _ _ hp
  have run : (execOp a.eval ⟨some d, .build S parts, ty, ps, af, none⟩).run Γ.P w = .ok (.value (.agg vs.toArray)) w := by
    rw [← hparts] at hb
    have := run_build (P := Γ.P) w S (parts.map fun p => (p.1, a.eval p.2)) _ hb
    simp [execOp, this]
  unfold XOk oN
  rw [run]
  refine ⟨_, hk, ⟨ρ, I.put (d := some d) (by simpa [dstOk] using hd) (Rep.agg _ _ (by simp) (fun j u hu => ?_) (fun j s u hs hu => ?_))⟩, fun _ => Ext.refl w⟩
  · exact List.all_eq_true.1 h1 u (List.mem_of_getElem? (by simpa using hu))
  · rw [List.getElem?_map] at hs
    have hu' : vs[j]? = some u := by simpa using hu
    rw [hu'] at hs
    simp at hs; subst hs; exact Rep.raw u
theorem q_mvf' {f : Nat} {ks : List Nat} (hx : St.ev ⟨t, h⟩ x = .cfn f ks) (hk : RunL Γ ops l ⟨(d, .cfn f ks) :: t, h⟩ K) : RunL Γ ops ((⟨some d, .assign x, ty, ps, af, none⟩, c) :: l) ⟨t, h⟩ K :=
  run_pure rfl (by show RunL Γ ops l ⟨(d, St.ev ⟨t, h⟩ x) :: t, h⟩ K; rw [hx]; exact hk)
end
end Go.Abs

/- A region that draws its order, where two operations that make something stand side by side: both orders are walked. No condition. -/
namespace Go.Abs
open Go Go.RowKit Go.Eager
set_option linter.unusedVariables false
set_option linter.unusedSimpArgs false
/-- Our orders: a row of operations; behind it either the end or one of two operations first. -/
inductive Tr
  | leaf (s : List Nat)
  | fork (s : List Nat) (i : Nat) (t : Tr) (j : Nat) (u : Tr)
def Tr.len : Tr → Nat
  | .leaf s => s.length
  | .fork s _ t _ _ => s.length + (t.len + 1)
section
variable (P : Program) (ops : Array Oper) (cls : Nat → Nat) (Q : Act → World → Prop)
def wpT : Tr → Act → World → Prop
  | .leaf s => wpE P ops cls Q s
  | .fork s i t j u => wpE P ops cls (fun a w => opN P ops cls i (wpT t) a w ∧ opN P ops cls j (wpT u) a w) s
def chkS (B : Array (List Nat)) : List Nat → Array Bool → Bool
  | [], _ => true
  | i :: s, listed =>
    (Region.ready .any ops listed).contains i &&
    (if cls i ≤ 1 then
      ((ops[i]?).map fun oi => (List.range ops.size).all fun j => j == i || listed.getD j true || (B.getD j []).contains i || (((ops[j]?).map fun oj => oi.apart ops oj).getD true && (cls i == 0 || cls j != 2))).getD false
     else (Region.ready .any ops listed) == [i]) &&
    chkS B s (listed.setIfInBounds i true)
def listAll (s : List Nat) (listed : Array Bool) : Array Bool := s.foldl (fun l i => l.setIfInBounds i true) listed
def chkT (B : Array (List Nat)) : Tr → Array Bool → Bool
  | .leaf s, listed => s.all (fun i => decide (i < ops.size)) && chk ops cls B s listed
  | .fork s i t j u, listed => s.all (fun i => decide (i < ops.size)) && chkS ops cls B s listed && (Region.ready .any ops (listAll s listed) == [i, j]) && (t.len == u.len) &&
    chkT B t ((listAll s listed).setIfInBounds i true) && chkT B u ((listAll s listed).setIfInBounds j true)
end
theorem anyN_prefix {P : Program} {ops : Array Oper} {cls : Nat → Nat} {Q R : Act → World → Prop} {B : Array (List Nat)} (hB : closedB ops B = true) (hs : Region.noSelect ops = true) (n : Nat) :
    ∀ (s : List Nat) (listed : Array Bool) (a : Act) (w : World), Shut B listed → chkS ops cls B s listed = true → wpE P ops cls R s a w → (Shut B (listAll s listed) → ∀ a w, R a w → anyN P ops cls Q n (listAll s listed) a w) → anyN P ops cls Q (s.length + n) listed a w
  | [], listed, a, w, hS, hc, h, hk => by simpa [listAll] using hk hS a w h
  | i :: s, listed, a, w, hS, hc, h, hk => by
    simp only [chkS, Bool.and_eq_true] at hc
    obtain ⟨⟨hr, hf⟩, hc'⟩ := hc
    have hr' : i ∈ Region.ready .any ops listed := by simpa using hr
    have e : (i :: s).length + n = s.length + n + 1 := by simp only [List.length_cons]; omega
    rw [e]
    unfold wpE at h
    cases hi : ops[i]? with
    | none => simp only [hi] at h
    | some oi =>
      simp only [hi] at h
      by_cases hl : cls i ≤ 1
      · simp only [hl, if_true] at h hf
        obtain ⟨v, hy, hk'⟩ := h
        have ih := anyN_prefix hB hs n s (listed.setIfInBounds i true) (a.put oi.dst v) w (Shut.add hB hS hr') hc' hk' hk
        simp only [hi, Option.map_some, Option.getD_some, List.all_eq_true, List.mem_range] at hf
        refine anyN_first hB (c := cls i) hi (by omega) (Region.noSelect_spec hs) (s.length + n) listed a w hS ?_ hr' hy ih
        intro j oj hoj hji hun hno
        have h1 := hf j (Array.getElem?_eq_some_iff.1 hoj).1
        simp only [hoj, Option.map_some, Option.getD_some, Bool.or_eq_true, Bool.and_eq_true, beq_iff_eq, bne_iff_ne, ne_eq, List.contains_iff_mem] at h1
        rcases h1 with ((h1 | h1) | h1) | h1
        · exact absurd h1 hji
        · rw [h1] at hun; cases hun
        · exact absurd h1 hno
        · exact ⟨h1.1, h1.2⟩
      · simp only [hl, if_false] at h hf
        have hre : Region.ready .any ops listed = [i] := by simpa using hf
        refine ⟨fun h0 => (by rw [h0] at hr'; cases hr'), fun j hj => ?_⟩
        rw [hre] at hj
        obtain rfl : j = i := by simpa using hj
        exact opN_mono (fun a' w' h3 => anyN_prefix hB hs n s _ a' w' (Shut.add hB hS hr') hc' h3 hk) h
theorem anyN_of_wpT {P : Program} {ops : Array Oper} {cls : Nat → Nat} {Q : Act → World → Prop} {B : Array (List Nat)} (hB : closedB ops B = true) (hs : Region.noSelect ops = true) :
    ∀ (t : Tr) (listed : Array Bool) (a : Act) (w : World), Shut B listed → chkT ops cls B t listed = true → wpT P ops cls Q t a w → anyN P ops cls Q t.len listed a w
  | .leaf s, listed, a, w, hS, hc, h => by
    simp only [chkT, Bool.and_eq_true] at hc
    exact anyN_of_wpE hB hs s listed a w hS hc.2 h
  | .fork s i t j u, listed, a, w, hS, hc, h => by
    simp only [chkT, Bool.and_eq_true, beq_iff_eq] at hc
    obtain ⟨⟨⟨⟨⟨-, hc1⟩, hre⟩, hlen⟩, hct⟩, hcu⟩ := hc
    refine anyN_prefix hB hs (t.len + 1) s listed a w hS hc1 h fun hS' a' w' hk => ?_
    refine ⟨fun h0 => (by rw [h0] at hre; cases hre), fun k hk' => ?_⟩
    have hk2 := hk'
    rw [hre] at hk2
    simp only [List.mem_cons, List.not_mem_nil, or_false] at hk2
    rcases hk2 with rfl | rfl
    · exact opN_mono (fun a2 w2 h3 => anyN_of_wpT hB hs t _ a2 w2 (Shut.add hB hS' hk') hct h3) hk.1
    · rw [hlen]
      exact opN_mono (fun a2 w2 h3 => anyN_of_wpT hB hs u _ a2 w2 (Shut.add hB hS' hk') hcu h3) hk.2
/-- The operations of a row, with their classes. -/
def pp (L : List Oper) (s : List Nat) : List (Oper × Nat) := s.filterMap fun i => (L[i]?).map fun o => (o, clsOp o.op)
@[reducible] def clsL (L : List Oper) (i : Nat) : Nat := match L[i]? with | some o => clsOp o.op | none => 2
theorem wpE_of_pp {P : Program} {L : List Oper} {Q : Act → World → Prop} : ∀ (s : List Nat) (a : Act) (w : World), s.all (fun i => decide (i < L.toArray.size)) = true → wpP P L.toArray Q (pp L s) a w → wpE P L.toArray (clsL L) Q s a w
  | [], a, w, _, h => h
  | i :: s, a, w, hs, h => by
    simp only [List.all_cons, Bool.and_eq_true, decide_eq_true_eq] at hs
    have hi : i < L.length := by simpa using hs.1
    have h0 : L[i]? = some L[i] := List.getElem?_eq_getElem hi
    have h1 : L.toArray[i]? = some L[i] := by simp
    have e : pp L (i :: s) = (L[i], clsOp L[i].op) :: pp L s := by simp [pp, h0]
    rw [e] at h
    unfold wpP at h
    unfold wpE
    simp only [h1]
    have hc : clsL L i = clsOp L[i].op := by simp [clsL, h0]
    rw [hc]
    by_cases h2 : clsOp L[i].op ≤ 1
    · rw [if_pos h2] at h ⊢
      obtain ⟨v, h4, h5⟩ := h
      exact ⟨v, h4, wpE_of_pp s _ _ hs.2 h5⟩
    · rw [if_neg h2] at h ⊢
      unfold opN
      simp only [h1]
      split
      · rename_i hw; rw [if_pos hw] at h
        exact oN_mono (fun v w' hk => ⟨fun h2 => hk.1 (by rw [← hc]; exact h2), wpE_of_pp s _ _ hs.2 hk.2⟩) h
      · rename_i hw; rw [if_neg hw] at h
        exact wpE_of_pp s _ _ hs.2 h
theorem opN_of_pp {P : Program} {L : List Oper} {Q : Act → World → Prop} {i : Nat} {a : Act} {w : World} (hi : i < L.length) (hc : ¬ clsL L i ≤ 1) (h : wpP P L.toArray Q (pp L [i]) a w) : opN P L.toArray (clsL L) i Q a w := by
  have h1 := wpE_of_pp (P := P) (L := L) (Q := Q) [i] a w (by simpa using hi) h
  have h0 : L.toArray[i]? = some L[i] := by simp [List.getElem?_eq_getElem hi]
  unfold wpE at h1
  simp only [h0] at h1
  rw [if_neg hc] at h1
  exact h1
/-- The walk along our orders. -/
def RunT (Γ : Ctx) (L : List Oper) : Tr → St → (St → Prop) → Prop
  | .leaf s, σ, K => RunL Γ L.toArray (pp L s) σ K
  | .fork s i t j u, σ, K => RunL Γ L.toArray (pp L s) σ fun σ' => RunL Γ L.toArray (pp L [i]) σ' (fun σ'' => RunT Γ L t σ'' K) ∧ RunL Γ L.toArray (pp L [j]) σ' (fun σ'' => RunT Γ L u σ'' K)
def Tr.forks (L : List Oper) : Tr → Bool
  | .leaf _ => true
  | .fork _ i t j u => decide (i < L.length) && decide (j < L.length) && decide (1 < clsL L i) && decide (1 < clsL L j) && t.forks L && u.forks L
theorem pp_ok {Γ : Ctx} {L : List Oper} (hd : (L.map fun o => (o, clsOp o.op)).all (fun p => dstOk Γ p.1) = true) (s : List Nat) : (pp L s).all (fun p => dstOk Γ p.1) = true := by
  rw [List.all_eq_true] at hd ⊢
  intro p hp
  simp only [pp, List.mem_filterMap, Option.map_eq_some_iff] at hp
  obtain ⟨i, _, o, ho, rfl⟩ := hp
  exact hd _ (List.mem_map.2 ⟨o, List.mem_of_getElem? ho, rfl⟩)
theorem wpP_monoT {P : Program} {ops : Array Oper} {Q Q' : Act → World → Prop} (h : ∀ a w, Q a w → Q' a w) : ∀ (l : List (Oper × Nat)) (a : Act) (w : World), wpP P ops Q l a w → wpP P ops Q' l a w
  | [], a, w, hh => h _ _ hh
  | (o, c) :: l, a, w, hh => by
    unfold wpP at hh ⊢
    split
    · rename_i h2; rw [if_pos h2] at hh
      obtain ⟨v, h4, h5⟩ := hh
      exact ⟨v, h4, wpP_monoT h l _ _ h5⟩
    · rename_i h2; rw [if_neg h2] at hh
      split
      · rename_i hw; rw [if_pos hw] at hh; exact oN_mono (fun v w' hk => ⟨hk.1, wpP_monoT h l _ _ hk.2⟩) hh
      · rename_i hw; rw [if_neg hw] at hh; exact wpP_monoT h l _ _ hh
theorem wpT_of_runT {Γ : Ctx} {L : List Oper} (hd : (L.map fun o => (o, clsOp o.op)).all (fun p => dstOk Γ p.1) = true) {K : St → Prop} {B : Array (List Nat)} : ∀ (t : Tr) (listed : Array Bool) (σ : St) (a : Act) (w : World), chkT L.toArray (clsL L) B t listed = true → t.forks L = true → RunT Γ L t σ K → Inv Γ σ a w → wpT Γ.P L.toArray (clsL L) (fun a' w' => ∃ σ', K σ' ∧ Inv Γ σ' a' w') t a w
  | .leaf s, listed, σ, a, w, hc, _, h, I => by
    simp only [chkT, Bool.and_eq_true] at hc
    exact wpE_of_pp s a w hc.1 (h (pp_ok hd s) a w I)
  | .fork s i t j u, listed, σ, a, w, hc, hf, h, I => by
    simp only [chkT, Bool.and_eq_true] at hc
    obtain ⟨⟨⟨⟨⟨hs, -⟩, -⟩, -⟩, hct⟩, hcu⟩ := hc
    simp only [Tr.forks, Bool.and_eq_true, decide_eq_true_eq] at hf
    obtain ⟨⟨⟨⟨⟨hi, hj⟩, ci⟩, cj⟩, ft⟩, fu⟩ := hf
    refine wpE_of_pp s a w hs (wpP_monoT ?_ _ _ _ (h (pp_ok hd s) a w I))
    rintro a' w' ⟨σ', ⟨h1, h2⟩, I'⟩
    refine ⟨opN_of_pp hi (by omega) (wpP_monoT ?_ _ _ _ (h1 (pp_ok hd _) a' w' I')), opN_of_pp hj (by omega) (wpP_monoT ?_ _ _ _ (h2 (pp_ok hd _) a' w' I'))⟩
    · rintro a2 w2 ⟨σ2, hk, I2⟩; exact wpT_of_runT hd t _ σ2 a2 w2 hct ft hk I2
    · rintro a2 w2 ⟨σ2, hk, I2⟩; exact wpT_of_runT hd u _ σ2 a2 w2 hcu fu hk I2
/-- **A region that draws its order, by all of our orders.** -/
theorem ok_region_t {Γ : Ctx} {σ : St} {K : St → Prop} {Q : Exit → St → Prop} {id : Nat} {L : List Oper} (t : Tr) (hm : Γ.P.follows .mixedOrders = true)
    (hc : (closedB L.toArray (waits L) && Region.noSelect L.toArray && (t.len == L.length) && t.forks L && chkT L.toArray (clsL L) (waits L) t (Array.replicate L.length false)) = true)
    (hd : (L.map fun o => (o, clsOp o.op)).all (fun p => dstOk Γ p.1) = true) (h : RunT Γ L t σ K) : Ok Γ (.region id L.toArray true) σ (thenQ K Q) := by
  intro a w I
  simp only [Bool.and_eq_true, beq_iff_eq] at hc
  obtain ⟨⟨⟨⟨hB, hs⟩, hl⟩, hf⟩, hk⟩ := hc
  have h1 := wpT_of_runT hd t (Array.replicate L.length false) σ a _ hk hf h I.drew
  refine wp_region_any hm (wpAny_of_anyN (cls := clsL L) (Q := fun a' w' => ∃ σ', K σ' ∧ Inv Γ σ' a' w') (fun _ _ h => h) _ _ _ _ ?_)
  have h2 := anyN_of_wpT hB hs t (Array.replicate L.length false) a _ (fun k m hk _ => by
    by_cases hlt : k < L.length <;> simp [hlt] at hk) hk h1
  rw [hl] at h2
  simpa using h2
theorem runT_leaf {Γ : Ctx} {L : List Oper} {s : List Nat} {σ : St} {K : St → Prop} (h : RunL Γ L.toArray (pp L s) σ K) : RunT Γ L (.leaf s) σ K := h
theorem runT_fork {Γ : Ctx} {L : List Oper} {s : List Nat} {i j : Nat} {t u : Tr} {σ : St} {K : St → Prop} (h : RunL Γ L.toArray (pp L s) σ fun σ' => RunL Γ L.toArray (pp L [i]) σ' (fun σ'' => RunT Γ L t σ'' K) ∧ RunL Γ L.toArray (pp L [j]) σ' (fun σ'' => RunT Γ L u σ'' K)) : RunT Γ L (.fork s i t j u) σ K := h
end Go.Abs

/- A box of ours that is written no more; an append of nothing to a row of ours. No condition. -/
namespace Go.Abs
open Go Go.RowKit Go.Eager
set_option linter.unusedVariables false
set_option linter.unusedSimpArgs false
def fbT (k : Nat) (s : SV) (t : List (Nat × LV)) : List (Nat × LV) := t.map fun p => (p.1, match p.2 with | .ptr k' j => if k' = k then (if j = 0 then .sv (.ptr s) else .dead) else .ptr k' j | lv => lv)
theorem fbT_lookup {k t : Nat} {s : SV} {lv : LV} : ∀ {ts : List (Nat × LV)}, (fbT k s ts).lookup t = some lv → ts.lookup t = some lv ∨ (ts.lookup t = some (.ptr k 0) ∧ lv = .sv (.ptr s)) ∨ lv = .dead
  | [], h => by simp [fbT] at h
  | (t', lv') :: ts, h => by
    simp only [fbT, List.map_cons, List.lookup_cons] at h ⊢
    by_cases ht : t = t'
    · subst ht
      simp only [BEq.rfl, Option.some.injEq] at h ⊢
      subst h
      split
      · rename_i k' j
        by_cases hk : k' = k
        · subst hk
          by_cases hj : j = 0
          · subst hj; simp
          · simp [hj]
        · simp [hk]
      · exact .inl rfl
    · have : (t == t') = false := by simpa using ht
      simp only [this] at h ⊢
      exact fbT_lookup h
section
variable {Γ : Ctx} {σ : St} {ρ : Nat → Value} {a : Act} {w : World}
theorem Iv.freezeB (I : Iv Γ σ ρ a w) {k : Nat} {l : List SV} (hk : σ.h.lookup k = some (.box (l.map .sv))) (hl : l ≠ []) : Iv Γ ⟨fbT k (.agg l) σ.t, dropH k σ.h⟩ ρ a w := by
  have J : Iv Γ ⟨σ.t, dropH k σ.h⟩ ρ a w := I.sub (fun _ _ h => h) fun k e h => (dropH_lookup h).1
  have hv : ∀ b, ρ k = .pointer (some ⟨b, 0, none⟩) → Rep w (Own Γ (dropH k σ.h) ρ) (.ptr (.agg l)) (.pointer (some ⟨b, 0, none⟩)) := by
    intro b0 hb0
    obtain ⟨b, T, cur, hr, hcur, hsz, hc⟩ := I.ent k _ hk
    rw [hb0] at hr
    simp only [Value.pointer.injEq, Option.some.injEq, Addr.mk.injEq, and_true] at hr
    subst hr
    have hbk : blk (ρ k) = some b0 := by rw [hb0]; rfl
    have hlen : cur.size = l.length := by rw [hsz]; simp
    refine Rep.ptr (.agg l) b0 0 (.agg cur) ?_ (Rep.agg l cur hlen (fun i u hu => ?_) (fun i s u hs hu => ?_)) ?_ ?_
    · rintro (hO | ⟨k1, e1, hk1, hb1⟩)
      · have h1 := I.out b0 hO
        rcases (I.new k _ b0 hk hbk).1 with h | h
        · omega
        · exact h1.2 h
      · obtain ⟨h1, h2⟩ := dropH_lookup hk1
        exact h2 (I.sep k1 k e1 _ b0 h1 hk hb1 hbk)
    · have hlt : i < (l.map LV.sv).length := by rw [← hsz]; exact (Array.getElem?_eq_some_iff.1 hu).1
      exact (hc i _ u (List.getElem?_eq_getElem hlt) hu).2
    · have h1 : (l.map LV.sv)[i]? = some (.sv s) := by rw [List.getElem?_map, hs]; rfl
      exact Rep.kp (hc i _ u h1 hu).1 (Own.sub fun k e h => (dropH_lookup h).1)
    · simp only [Value.cells]
      have : 0 < l.length := List.length_pos_iff.2 hl
      omega
    · intro j u hu
      rw [cell_of_row w b0 (0 + j) cur T (0, 0) hcur, Nat.zero_add]; exact hu
  refine ⟨J.dfr, J.size, J.frm, ?_, J.ent, J.new, J.sep, J.out, J.inn⟩
  intro t lv h
  rcases fbT_lookup h with h' | ⟨h', rfl⟩ | rfl
  · exact J.tmp t lv h'
  · obtain ⟨b, e1, e2⟩ := I.tmp t _ h'
    show Rep w _ _ _
    rw [e2]; exact hv b e1
  · exact trivial
end
theorem le_fb {Γ : Ctx} {t : List (Nat × LV)} {h : List (Nat × Ent)} {c : List LV} (k : Nat) (l : List SV) (hk : h.lookup k = some (.box c)) (hc : c = l.map .sv) (hl : l ≠ []) : Le Γ ⟨fbT k (.agg l) t, dropH k h⟩ ⟨t, h⟩ := by
  subst hc; exact fun _ _ ⟨_, I⟩ => ⟨_, I.freezeB hk hl⟩
section
variable {Γ : Ctx} {ops : Array Oper} {l : List (Oper × Nat)} {t : List (Nat × LV)} {h : List (Nat × Ent)} {K : St → Prop} {c d ty : Nat} {ps : String} {af : Array Edge} {x y : Operand}
/-- An append of nothing to a row of ours. -/
theorem q_appZ {S e n k : Nat} {r : List SV} (he : elOf Γ.P S = some (e, n)) (hx : St.ev ⟨t, h⟩ x = .own k) (hh : h.lookup k = some (.row n e r)) (hy : St.ev ⟨t, h⟩ y = .sv (.sl n []))
    (hk : RunL Γ ops l ⟨(d, .own k) :: t, h⟩ K) :
    RunL Γ ops ((⟨some d, .call { callee := .builtin .append, args := #[x, y], argTypes := #[S, S] }, ty, ps, af, none⟩, 2) :: l) ⟨t, h⟩ K := by
  refine run_x (ext := False) rfl (by omega) (fun h => (h rfl).elim) fun a w ρ I hd => ?_
  have hX : a.eval x = ρ k := by have := I.ev x; rw [hx] at this; exact this
  have hY := I.ev y
  rw [hy] at hY
  obtain ⟨hu, hs⟩ := elOf_spec he
  obtain ⟨hz0, xs, vals0, hown, hrep⟩ := I.ent k _ hh
  have hS : (sizeOf e).run Γ.P w = .ok n w := by
    unfold szOf at hs
    cases hi : Γ.P.info? e with
    | none => simp [hi] at hs
    | some it => simp [hi] at hs; simp [sizeOf, typeInfo, hi, hs]
  have hU : (underlying S).run Γ.P w = .ok (.slice e) w := by simp [underlying, hu]
  obtain ⟨p, m, cap, hρ, hmc⟩ : ∃ p m cap, ρ k = .slice p m cap ∧ m ≤ cap := by
    rcases hown.2 with ⟨h1, h2⟩ | ⟨g, cap, cur, h1, _, _, h4, _⟩
    · exact ⟨_, _, _, h1, Nat.le_refl _⟩
    · exact ⟨_, _, _, h1, h4⟩
  obtain ⟨q, cc, hyv⟩ : ∃ q cc, a.eval y = .slice q 0 cc := by
    obtain ⟨q, m, cc, hv⟩ := rep_sl hY
    rw [hv] at hY
    cases hY with
    | nil => exact ⟨_, _, hv⟩
    | sl _ _ _ _ _ _ _ hl => simp at hl
  have run : (execOp a.eval ⟨some d, .call { callee := .builtin .append, args := #[x, y], argTypes := #[S, S] }, ty, ps, af, none⟩).run Γ.P w = .ok (.value (ρ k)) w := by
    have happ : (Builtin.append_ #[S, S] ty #[ρ k, .slice q 0 cc]).run Γ.P w = .ok (ρ k) w := by
      rw [hρ]
      unfold Builtin.append_
      cases p <;> cases q <;> simp [hU, hS, Builtin.lenOf, Builtin.firstCells, loadCells, loadCellsFrom, storeCells, hmc]
    simp [execOp, resolve, invoke, builtin, hX, hyv, happ]
  unfold XOk oN
  rw [run]
  exact ⟨_, hk, ⟨ρ, I.put (d := some d) (lv := .own k) (by simpa [dstOk] using hd) rfl⟩, fun _ => Ext.refl w⟩
end
end Go.Abs

/- A struct put together of its first parts; the rest is zero. No condition. -/
namespace Go.Abs
open Go Go.RowKit Go.Eager
set_option linter.unusedVariables false
/-- Values that read so, wherever. -/
def ZL : List SV → List Value → Prop
  | [], [] => True
  | s :: ts, v :: zs => ((∀ w O, Rep w O s v) ∧ v.oneCell' = true) ∧ ZL ts zs
  | _, _ => False
theorem ZL.len : ∀ {ts : List SV} {zs : List Value}, ZL ts zs → ts.length = zs.length
  | [], [], _ => rfl
  | _ :: _, _ :: _, h => by simp [ZL.len h.2]
  | [], _ :: _, h => h.elim
  | _ :: _, [], h => h.elim
theorem ZL.at : ∀ {ts : List SV} {zs : List Value}, ZL ts zs → ∀ (i : Nat) (s : SV) (v : Value), ts[i]? = some s → zs[i]? = some v → (∀ w O, Rep w O s v) ∧ v.oneCell' = true
  | [], [], _, i, s, v, h, _ => by simp at h
  | s :: ts, v :: zs, h, 0, s', v', h1, h2 => by cases h1; cases h2; exact h.1
  | s :: ts, v :: zs, h, i + 1, s', v', h1, h2 => ZL.at h.2 i s' v' (by simpa using h1) (by simpa using h2)
  | [], _ :: _, h, _, _, _, _, _ => h.elim
  | _ :: _, [], h, _, _, _, _, _ => h.elim
theorem nil_sl (n : Nat) : (∀ w O, Rep w O (.sl n []) (.slice none 0 0)) ∧ (Value.slice none 0 0).oneCell' = true := ⟨fun _ _ => .nil n none 0, rfl⟩
theorem nil_tr (n : Nat) : (∀ w O, Rep w O (.tr (fun _ => False) (.sl n []) (.slice none 0 0)) (.slice none 0 0)) ∧ (Value.slice none 0 0).oneCell' = true := ⟨fun _ _ => .tr _ _ _ (.nil _ _ _ _) fun b hb => hb.elim, rfl⟩
theorem raw_z (k : IntKind) (n : Int) : (∀ w O, Rep w O (.raw (.int k n)) (.int k n)) ∧ (Value.int k n).oneCell' = true := ⟨fun _ _ => .raw _, rfl⟩
def BLz (P : Program) (S : Nat) (ss : List SV) (zs : List Value) : Prop := ∀ vs : List Value, ShL ss vs → P.built S (vs.zipIdx.map fun p => (p.2, p.1)) = some (vs ++ zs).toArray
section
variable {Γ : Ctx} {ops : Array Oper} {l : List (Oper × Nat)} {t : List (Nat × LV)} {h : List (Nat × Ent)} {K : St → Prop} {c d ty : Nat} {ps : String} {af : Array Edge} {x y : Operand}
theorem q_bldz {S : Nat} {parts : Array (Nat × Operand)} (ss ts : List SV) {zs : List Value} (hb : BLz Γ.P S ss zs) (hz : ZL ts zs) (hi : parts.toList.map (·.1) = List.range ss.length) (hx : parts.toList.map (fun p => St.ev ⟨t, h⟩ p.2) = ss.map LV.sv) (ha : ss.all shpOk = true)
    (hk : RunL Γ ops l ⟨(d, .sv (.agg (ss ++ ts))) :: t, h⟩ K) : RunL Γ ops ((⟨some d, .build S parts, ty, ps, af, none⟩, c + 2) :: l) ⟨t, h⟩ K := by
  refine run_x (ext := True) rfl (by omega) (fun _ => trivial) fun a w ρ I hd => ?_
  have hlen : parts.toList.length = ss.length := by have := congrArg List.length hx; simpa using this
  let vs := parts.toList.map fun p => a.eval p.2
  have hvl : vs.length = ss.length := by simp [vs]; simpa using hlen
  have hvs : ∀ (i : Nat) (s : SV) (v : Value), ss[i]? = some s → vs[i]? = some v → Rep w (Own Γ h ρ) s v := by
    intro i s v hs hv
    have h2 : (parts.toList.map fun p => St.ev ⟨t, h⟩ p.2)[i]? = some (.sv s) := by rw [hx, List.getElem?_map, hs]; rfl
    rw [List.getElem?_map] at h2
    simp only [vs, List.getElem?_map] at hv
    cases hp : parts.toList[i]? with
    | none => simp [hp] at h2
    | some p =>
      simp only [hp, Option.map_some, Option.some.injEq] at h2 hv
      subst hv
      have := I.ev p.2
      rw [h2] at this
      exact this
  have hsh := shL_of (vs := vs) hvl.symm hvs ha
  have hparts : (parts.map fun p => (p.1, a.eval p.2)).toList = vs.zipIdx.map fun p => (p.2, p.1) := by
    rw [Array.toList_map]
    apply List.ext_getElem?
    intro i
    simp only [vs, List.getElem?_map, List.getElem?_zipIdx]
    cases hp : parts.toList[i]? with
    | none => simp
    | some p =>
      have h3 : (parts.toList.map (·.1))[i]? = some p.1 := by rw [List.getElem?_map, hp]; rfl
      rw [hi] at h3
      obtain ⟨hlt, he⟩ := List.getElem?_eq_some_iff.1 h3
      simp only [List.getElem_range] at he
      simp [← he]
  have run : (execOp a.eval ⟨some d, .build S parts, ty, ps, af, none⟩).run Γ.P w = .ok (.value (.agg (vs ++ zs).toArray)) w := by
    have h4 := hb vs hsh
    rw [← hparts] at h4
    have := run_build (P := Γ.P) w S (parts.map fun p => (p.1, a.eval p.2)) _ h4
    simp [execOp, this]
  have hzl := hz.len
  have key : ∀ (j : Nat) (s : SV) (u : Value), (ss ++ ts)[j]? = some s → (vs ++ zs)[j]? = some u → Rep w (Own Γ h ρ) s u := by
    intro j s u hs hu
    rcases Nat.lt_or_ge j ss.length with hj | hj
    · rw [List.getElem?_append_left hj] at hs
      rw [List.getElem?_append_left (by omega)] at hu
      exact hvs j s u hs hu
    · rw [List.getElem?_append_right hj] at hs
      rw [List.getElem?_append_right (by omega), hvl] at hu
      exact (hz.at _ s u hs hu).1 w _
  unfold XOk oN
  rw [run]
  refine ⟨_, hk, ⟨ρ, I.put (d := some d) (by simpa [dstOk] using hd) (Rep.agg _ _ (by simp [hvl, hzl]) (fun j u hu => ?_) (fun j s u hs hu => key j s u hs (by simpa using hu)))⟩, fun _ => Ext.refl w⟩
  have hu' : (vs ++ zs)[j]? = some u := by simpa using hu
  rcases Nat.lt_or_ge j vs.length with hj | hj
  · rw [List.getElem?_append_left hj] at hu'
    have hs : ss[j]? = some (ss[j]'(by omega)) := List.getElem?_eq_getElem (by omega)
    have hr := hvs j _ u hs hu'
    exact hr.oneCell (shL_one hr (List.all_eq_true.1 ha _ (List.mem_of_getElem? hs)))
  · rw [List.getElem?_append_right hj] at hu'
    have hlt := (List.getElem?_eq_some_iff.1 hu').1
    have hs : ts[j - vs.length]? = some (ts[j - vs.length]'(by omega)) := List.getElem?_eq_getElem (by omega)
    exact (hz.at _ _ u hs hu').2
end
end Go.Abs

/- A text's bytes behind a row of bytes of ours. No condition. -/
namespace Go.Abs
open Go Go.RowKit Go.Eager Go.Lib
set_option linter.unusedVariables false
theorem run_append_mine_str {P : Program} (w : World) (t u ty e : TypeId) (i : TypeInfo) (ht : P.underlying t = some (.slice e)) (hu : P.underlying u = some .string) (hi : P.info? e = some i) (hz : i.zero = some (.int .u8 0))
    (hsize : i.size = 1) (hby : i.bytes = 1) (v : Value) (n : Nat) (xs : List Value) (hown : w.ownsRow 0 e 1 v n xs) (s : ByteArray) (h63 : n + s.size ≤ maxLen) (hbytes : n + s.size ≤ 140737488355328) :
    ∃ v' w', (Builtin.append_ #[t, u] ty #[v, .string s]).run P w = .ok v' w' ∧ w'.ownsRow 0 e 1 v' (n + s.size) (xs ++ strCells s) ∧ w.grownBy w' (blk v) ∧
      ∀ b, blk v' = some b → b < w'.heap.size ∧ (w.heap.size ≤ b ∨ blk v = some b) := by
  rcases hown.2 with ⟨rfl, rfl⟩ | ⟨g, cap, cur, rfl, hbg, hg, hnc, hcm, hcs, htake⟩
  · have hx : xs = [] := List.eq_nil_of_length_eq_zero (by simpa using hown.1)
    subst hx
    obtain ⟨v', w', h2, h3, h4, _⟩ := run_append_own_string (P := P) w w.heap.size t u ty e i ht hu hi hz hsize hby (.slice none 0 0) 0 [] (World.ownsRow_nil w _ e 1) s h63 hbytes (Nat.le_refl _)
    exact ⟨v', w', h2, ownsRow_base h3 (Nat.zero_le _), h4, fun b hb => ⟨(ownsRow_blk h3 hb).2, .inl (ownsRow_blk h3 hb).1⟩⟩
  · obtain ⟨v', w', h2, h3, h4, _⟩ := run_append_own_string (P := P) w 0 t u ty e i ht hu hi hz hsize hby _ n xs hown s h63 hbytes (Nat.zero_le _)
    have hcs' : cur.size = cap := by simpa using hcs
    by_cases hroom : n + s.size ≤ cap
    · have hr := run_append_room_string (P := P) w t u ty e i ht hu hi hsize g n cap cur hg s hroom (by omega)
      rw [hr] at h2
      simp only [Result.ok.injEq] at h2
      obtain ⟨rfl, rfl⟩ := h2
      exact ⟨_, _, hr, h3, h4, fun b hb => ⟨(ownsRow_blk h3 hb).2, .inr (by simpa [blk] using hb)⟩⟩
    · have hr := run_append_grow_string (P := P) w t u ty e i (.int .u8 0) ht hu hi hz ⟨g, 0, none⟩ n cap xs (by rw [hsize]; exact hown.1) (hown.cells (g := g) rfl) s (by omega) (by simp only [maxLen] at h63; omega) (by rw [hby]; exact growslice_fits (by omega) (by omega))
      rw [hr] at h2
      simp only [Result.ok.injEq] at h2
      obtain ⟨rfl, rfl⟩ := h2
      refine ⟨_, _, hr, h3, h4, fun b hb => ⟨(ownsRow_blk h3 hb).2, .inl ?_⟩⟩
      simp [blk] at hb
      omega
section
variable {Γ : Ctx} {σ : St} {ρ : Nat → Value} {a : Act} {w : World}
theorem ok_append_at_str (I : Iv Γ σ ρ a w) {o : Oper} {x y : Operand} {t u e k d : Nat} {T : Nat} {l : List SV} {s : ByteArray} {K : St → Prop} (ho : o.op = .call { callee := .builtin .append, args := #[x, y], argTypes := #[t, u] })
    (hd : o.dst = some d) (hdn : d < Γ.n) (he : elOf Γ.P t = some (e, 1)) (hus : strOf Γ.P u = true) (hz : zeroOf Γ.P e = some (.int .u8 0)) (hb : bytOf Γ.P e = some 1)
    (hX : a.eval x = ρ k) (hnm : ∀ t lv, σ.t.lookup t = some lv → lv.mentions k = false) (hk : σ.h.lookup k = some (.row 1 T l)) (hT : T = e) (hi : Γ.inn k = none) (hbox : ∀ k1 e1, k1 ≠ k → σ.h.lookup k1 = some e1 → e1.mentions k = false)
    (hy : σ.ev y = .sv (.raw (.string s))) (h63 : l.length + s.size ≤ maxLen) (hbytes : l.length + s.size ≤ 140737488355328)
    (hK : K ⟨(d, .own k) :: σ.t, ins k (.row 1 T (l ++ s.data.toList.map byteSV)) σ.h⟩) : XOk Γ a w o False K := by
  subst hT
  obtain ⟨hu, hs⟩ := elOf_spec he
  have hyv : a.eval y = .string s := ev_raw I hy
  obtain ⟨hz0, xs, vals0, hown, hrep⟩ := I.ent k _ hk
  unfold zeroOf at hz
  unfold szOf at hs
  unfold bytOf at hb
  cases hinfo : Γ.P.info? T with
  | none => simp [hinfo] at hz
  | some i =>
    simp only [hinfo, Option.bind_some, Option.map_some, Option.some.injEq] at hz hs hb
    obtain ⟨v', w', h2, h3, h4, h5⟩ := run_append_mine_str (P := Γ.P) w t u o.type T i hu (strOf_spec hus) hinfo hz hs hb (ρ k) l.length xs hown s h63 hbytes
    have run : (execOp a.eval o).run Γ.P w = .ok (.value v') w' := by
      simp [execOp, ho, resolve, invoke, builtin, hX, hyv, h2]
    unfold XOk oN
    rw [run]
    refine ⟨_, hK, ⟨upd ρ k v', ?_⟩, fun h => h.elim⟩
    have hsl : (l ++ s.data.toList.map byteSV).length = l.length + s.size := by rw [List.length_append, List.length_map, Array.length_toList]; rfl
    have kp : Kp w (Own Γ σ.h ρ) w' (Own Γ (ins k (.row 1 T (l ++ s.data.toList.map byteSV)) σ.h) (upd ρ k v')) := by
      intro b hlt hno
      refine ⟨h4.block b hlt fun hbk => hno (.inr ⟨k, _, hk, hbk.symm⟩), ?_⟩
      rintro (hO | ⟨k1, e1, hk1, hb1⟩)
      · exact hno (.inl hO)
      · rw [lookup_ins] at hk1
        by_cases hkk : k1 = k
        · subst hkk
          rw [upd_at] at hb1
          rcases (h5 b hb1).2 with h | h
          · omega
          · exact hno (.inr ⟨k1, _, hk, h⟩)
        · rw [if_neg hkk] at hk1
          rw [upd_ne _ _ hkk] at hb1
          exact hno (.inr ⟨k1, e1, hk1, hb1⟩)
    have I' := I.heap (t' := σ.t) (k := k) (e := .row 1 T (l ++ s.data.toList.map byteSV)) (v' := v') (w' := w') (fun t lv h => .inl h)
      (.inr ⟨hnm, hbox⟩) ⟨h4.os, h4.tape, h4.output, h4.size⟩ (fun b hlt hne => h4.block b hlt fun hbk => hne _ hk hbk.symm)
      (fun b hb => ⟨(h5 b hb).1, (h5 b hb).2.imp id fun h => ⟨_, hk, h⟩⟩) (by rw [hi]; intro v h; cases h) (by
        refine ⟨hz0, xs ++ strCells s, fun i => if i < l.length then vals0 i else .int .u8 ((s.data.toList.getD (i - l.length) 0).toNat), ?_, ?_⟩
        · rw [upd_at, hsl]; exact h3
        · intro i s' hs'
          have hxl : xs.length = l.length := by simpa using hown.1
          by_cases hil : i < l.length
          · simp only [hil, if_true]
            rw [List.getElem?_append_left hil] at hs'
            obtain ⟨r1, r2, r3⟩ := hrep i s' hs'
            refine ⟨r1.kp kp, r2, fun j u hu' => ?_⟩
            have hh := r3 j u hu'
            rw [List.getElem?_append_left (List.getElem?_eq_some_iff.1 hh).1]; exact hh
          · simp only [hil, if_false]
            rw [List.getElem?_append_right (by omega), List.getElem?_map] at hs'
            cases hq : s.data.toList[i - l.length]? with
            | none => simp [hq] at hs'
            | some b =>
              simp only [hq, Option.map_some, Option.some.injEq] at hs'
              subst hs'
              simp only [List.getD_eq_getElem?_getD, hq, Option.getD_some]
              refine ⟨Rep.raw _, rfl, fun j u hu' => ?_⟩
              have hj0 : j = 0 := by have := (Array.getElem?_eq_some_iff.1 hu').1; simpa [Value.cells] using this
              subst hj0
              simp [Value.cells] at hu'; subst hu'
              rw [Nat.mul_one, Nat.add_zero, List.getElem?_append_right (by omega), hxl]
              simp [strCells, hq])
    have := I'.put (d := some d) (lv := .own k) (v := v') (by simpa using hdn) (upd_at ρ k v').symm
    rw [hd]
    exact this
end
section
variable {Γ : Ctx} {ops : Array Oper} {l : List (Oper × Nat)} {t : List (Nat × LV)} {h : List (Nat × Ent)} {K : St → Prop} {c d ty : Nat} {ps : String} {af : Array Edge} {x y : Operand}
theorem q_apps {S U e k T : Nat} {s : ByteArray} {r : List SV} (he : elOf Γ.P S = some (e, 1)) (hus : strOf Γ.P U = true) (hz : zeroOf Γ.P e = some (.int .u8 0)) (hb : bytOf Γ.P e = some 1) (hx : St.ev ⟨t, h⟩ x = .own k) (hh : h.lookup k = some (.row 1 T r)) (hT : T = e) (hf : St.free ⟨t, h⟩ d = true) (hi : Γ.inn d = none)
    (hy : St.ev ⟨t, h⟩ y = .sv (.raw (.string s))) (h63 : r.length + s.size ≤ maxLen) (hbytes : r.length + s.size ≤ 140737488355328)
    (hk : RunL Γ ops l ⟨(d, .own d) :: t, ins d (.row 1 T (r ++ s.data.toList.map byteSV)) (ins d (.row 1 T r) (dropH k h))⟩ K) :
    RunL Γ ops ((⟨some d, .call { callee := .builtin .append, args := #[x, y], argTypes := #[S, U] }, ty, ps, af, none⟩, 2) :: l) ⟨t, h⟩ K := by
  refine run_x (ext := False) rfl (by omega) (fun h => (h rfl).elim) fun a w ρ I hd => ?_
  have hX : a.eval x = ρ k := by have := I.ev x; rw [hx] at this; exact this
  obtain ⟨f1, f2⟩ := free_rekey (k := k) (e := .row 1 T r) hf
  exact ok_append_at_str (σ := ⟨t, ins d (.row 1 T r) (dropH k h)⟩) (I.rekey hf hh hi) (k := d) rfl rfl (by simpa [dstOk] using hd) he hus hz hb (by rw [upd_at]; exact hX) f1 (by rw [lookup_ins, if_pos rfl]) hT hi f2 hy h63 hbytes hk
/-- Bytes as a text. -/
theorem q_cvz {bs : List UInt8} {S D e : Nat} (hs : Γ.P.underlying S = some (.slice e)) (he : Γ.P.underlying e = some (.int .u8)) (hD : Γ.P.underlying D = some .string) (hx : St.ev ⟨t, h⟩ x = .sv (.sl 1 (bs.map byteSV)))
    (hk : RunL Γ ops l ⟨(d, .sv (.raw (.string ⟨bs.toArray⟩))) :: t, h⟩ K) : RunL Γ ops ((⟨some d, .convert S D x, ty, ps, af, none⟩, c + 2) :: l) ⟨t, h⟩ K := by
  refine run_x (ext := True) rfl (by omega) (fun _ => trivial) fun a w ρ I hd => ?_
  have hX := I.ev x
  rw [hx] at hX
  have run : (execOp a.eval ⟨some d, .convert S D x, ty, ps, af, none⟩).run Γ.P w = .ok (.value (.string ⟨bs.toArray⟩)) w := by
    have h1 := run_rep_string (P := Γ.P) hX
    obtain ⟨q, n, cc, hq⟩ : ∃ q n cc, a.eval x = .slice q n cc := rep_sl hX
    rw [hq] at h1
    simp [execOp, hq, run_convert_bytes_string w S D e q n cc hs he hD, h1]
  unfold XOk oN
  rw [run]
  exact ⟨_, hk, ⟨ρ, I.put (d := some d) (by simpa [dstOk] using hd) (Rep.raw _)⟩, fun _ => Ext.refl w⟩
/-- A number as one of another kind, cut to it. -/
theorem q_cvw {p : Int} {S D : Nat} {kk k' : IntKind} (hs : (aggOf Γ.P S).isSome = true) (hd : inkOf Γ.P D = some k') (hx : St.ev ⟨t, h⟩ x = .sv (.raw (.int kk p))) (hk : RunL Γ ops l ⟨(d, .sv (.raw (.int k' (k'.wrap p)))) :: t, h⟩ K) :
    RunL Γ ops ((⟨some d, .convert S D x, ty, ps, af, none⟩, c) :: l) ⟨t, h⟩ K :=
  run_pure rfl (by simp only [stepP, hx]; exact ⟨hs, k', hd, hk⟩)
end
end Go.Abs

/- Two structs of two texts, unlike or not. No condition. -/
namespace Go.Abs
open Go Go.RowKit Go.Eager
set_option linter.unusedVariables false
set_option linter.unusedSimpArgs false
theorem part_one {P : Program} {T : TypeId} {vs : Array Value} {o : Nat} {u : Value} (h : aggOf P T = some false) (hu : vs[o]? = some u) (w : World) : (part T vs o).run P w = .ok u w := by
  simp [part, run_isAgg h, hu]
/-- A struct of two texts: T, whose parts are of type U. -/
structure TwoT (P : Program) (T U : TypeId) : Prop where
  under : P.underlying T = some (.struct (P.fieldsOf T))
  held : P.stoodInHeld T = false
  guard : P.eqGuardType P.depth T = false
  str : P.underlying U = some .string
  parts : ∃ f0 f1 : Field, (P.fieldsOf T).toList = [f0, f1] ∧ f0.name ≠ "_" ∧ f1.name ≠ "_" ∧ f0.type = U ∧ f1.type = U ∧ f0.offset = 0 ∧ f1.offset = 1
theorem run_neq_two {P : Program} {T U : TypeId} (hT : TwoT P T U) {xs ys : Array Value} {p1 p2 q1 q2 : ByteArray} (x1 : xs[0]? = some (.string p1)) (x2 : xs[1]? = some (.string p2)) (y1 : ys[0]? = some (.string q1)) (y2 : ys[1]? = some (.string q2)) (w : World) :
    (binOp .neq T (.agg xs) (.agg ys)).run P w = .ok (.bool (!(p1.toList == q1.toList && p2.toList == q2.toList))) w := by
  obtain ⟨f0, f1, hf, n0, n1, t0, t1, o0, o1⟩ := hT.parts
  have ha : aggOf P U = some false := by unfold aggOf; rw [hT.str]; rfl
  rw [run_neq_struct, run_equalIn_struct w 9999 T xs ys hT.under hT.held, hf]
  simp only [Op.eqFields, n0, n1, t0, t1, o0, o1, ne_eq, not_false_eq_true, if_true, Sem.run_bind]
  have e1 : ∀ w, (Op.equalIn 9999 U (.string p1) (.string q1)).run P w = .ok (p1.toList == q1.toList) w := fun w => run_equalIn_string w 9998 U p1 q1 hT.str
  have e2 : ∀ w, (Op.equalIn 9999 U (.string p2) (.string q2)).run P w = .ok (p2.toList == q2.toList) w := fun w => run_equalIn_string w 9998 U p2 q2 hT.str
  simp only [part_one ha x1, part_one ha y1, Result.andThen_ok, e1]
  by_cases h1 : (p1.toList == q1.toList) = true
  · simp only [h1, Bool.not_true, Bool.false_eq_true, if_false, Sem.run_bind, part_one ha x2, part_one ha y2, Result.andThen_ok, e2]
    by_cases h2 : (p2.toList == q2.toList) = true
    · simp [h2]
    · simp [h2]
  · simp [h1]
section
variable {Γ : Ctx} {ops : Array Oper} {l : List (Oper × Nat)} {t : List (Nat × LV)} {h : List (Nat × Ent)} {K : St → Prop} {c d ty : Nat} {ps : String} {af : Array Edge} {x y : Operand}
/-- Two structs of two texts: unlike. -/
theorem q_nes {T U t2 : Nat} {p1 p2 q1 q2 : ByteArray} (hT : TwoT Γ.P T U) (hx : St.ev ⟨t, h⟩ x = .sv (.agg [.raw (.string p1), .raw (.string p2)])) (hy : St.ev ⟨t, h⟩ y = .sv (.agg [.raw (.string q1), .raw (.string q2)]))
    (hk : RunL Γ ops l ⟨(d, .sv (.raw (.bool (!(p1.toList == q1.toList && p2.toList == q2.toList))))) :: t, h⟩ K) :
    RunL Γ ops ((⟨some d, .binOp .neq T x y t2, ty, ps, af, none⟩, c) :: l) ⟨t, h⟩ K := by
  refine run_pure' rfl fun a w ρ I => ?_
  have hX := I.ev x
  have hY := I.ev y
  rw [hx] at hX
  rw [hy] at hY
  have hX' : Rep w (Own Γ h ρ) (.agg [.raw (.string p1), .raw (.string p2)]) (a.eval x) := hX
  have hY' : Rep w (Own Γ h ρ) (.agg [.raw (.string q1), .raw (.string q2)]) (a.eval y) := hY
  generalize ex : a.eval x = vx at hX'
  generalize ey : a.eval y = vy at hY'
  obtain ⟨xs, rfl, hxn⟩ := agg_inv hX'
  obtain ⟨ys, rfl, hyn⟩ := agg_inv hY'
  obtain ⟨u1, x1, r1, -⟩ := agg_cell hX' (i := 0) rfl
  obtain ⟨u2, x2, r2, -⟩ := agg_cell hX' (i := 1) rfl
  obtain ⟨v1, y1, s1, -⟩ := agg_cell hY' (i := 0) rfl
  obtain ⟨v2, y2, s2, -⟩ := agg_cell hY' (i := 1) rfl
  have e1 := rep_raw' r1
  have e2 := rep_raw' r2
  have e3 := rep_raw' s1
  have e4 := rep_raw' s2
  subst e1 e2 e3 e4
  refine ⟨_, _, hk, Rep.raw _, fun w' => ?_⟩
  have hg := run_eqGuard_agg (P := Γ.P) w' .neq T x y xs ys hT.guard
  have hr := run_neq_two hT x1 x2 y1 y2 w'
  simp [execOp, ex, ey, hg, hr]
end
end Go.Abs

/- The first elements of a row of ours; an append of a row of ours to a row of ours. No condition. -/
namespace Go.Abs
open Go Go.RowKit Go.Eager
set_option linter.unusedVariables false
set_option linter.unusedSimpArgs false
section
variable {Γ : Ctx} {σ : St} {ρ : Nat → Value} {a : Act} {w : World}
/-- The first elements of a row of ours. -/
theorem ok_slicep (I : Iv Γ σ ρ a w) {o : Oper} {x hi : Operand} {t k n T e d : Nat} {kk : IntKind} {p : Int} {l : List SV} (ho : o.op = .slice t x none (some hi) none) (he : elOf Γ.P t = some (e, n))
    (hx : σ.ev x = .own k) (hk : σ.h.lookup k = some (.row n T l)) (hl : 0 < l.length) (hhi : σ.ev hi = .sv (.raw (.int kk p))) (h0 : 0 ≤ p) (h1 : p ≤ l.length) (hf : σ.free d = true) (hdn : d < Γ.n) (hi0 : Γ.inn d = none) :
    ∃ v, Inv Γ ⟨(d, .own d) :: σ.t, ins d (.row n T (l.take p.toNat)) (ins d (.row n T l) (dropH k σ.h))⟩ (a.put (some d) v) w ∧ ∀ w', (execOp a.eval o).run Γ.P w' = .ok (.value v) w' := by
  obtain ⟨hu, hs⟩ := elOf_spec he
  have hX : a.eval x = ρ k := by have := I.ev x; rw [hx] at this; exact this
  obtain ⟨hz, xs, vals, hown, hrep⟩ := I.ent k _ hk
  rcases hown.2 with ⟨_, h⟩ | ⟨g, cap, cur, hv, hbg, hg, hcap, hcm, hcs, htake⟩
  · omega
  · have hpl : p.toNat ≤ l.length := by omega
    have hlen : (l.take p.toNat).length = p.toNat := by rw [List.length_take]; omega
    have hpn : p.toNat * n ≤ l.length * n := Nat.mul_le_mul_right _ hpl
    have J := I.rekey (k := k) (d := d) hf hk hi0
    obtain ⟨f1, f2⟩ := free_rekey (k := k) (e := .row n T l) hf
    have J2 := J.heap (t' := σ.t) (k := d) (e := .row n T (l.take p.toNat)) (v' := .slice (some ⟨g, 0, none⟩) p.toNat cap) (w' := w) (fun t lv h => .inl h) (.inr ⟨f1, f2⟩) ⟨rfl, rfl, rfl, Nat.le_refl _⟩ (fun _ _ _ => rfl)
      (fun b hb => by
        simp [blk] at hb; subst hb
        refine ⟨(Array.getElem?_eq_some_iff.1 hg).1, .inr ⟨_, by rw [lookup_ins, if_pos rfl], ?_⟩⟩
        rw [upd_at, hv]; rfl) (by rw [hi0]; intro v h; cases h) (by
        refine ⟨hz, xs.take (p.toNat * n), vals, ?_, fun i s hi => ?_⟩
        · rw [upd_at, hlen]
          refine ⟨by rw [List.length_take, hown.1]; omega, .inr ⟨g, cap, cur, rfl, hbg, hg, by omega, hcm, hcs, ?_⟩⟩
          rw [← htake, List.take_take, Nat.min_eq_left hpn]
        · have hlt : i < p.toNat := by have := (List.getElem?_eq_some_iff.1 hi).1; omega
          rw [List.getElem?_take, if_pos hlt] at hi
          obtain ⟨r1, r2, r3⟩ := hrep i s hi
          refine ⟨r1.kp (fun b hb hno => ⟨rfl, ?_⟩), r2, fun j u hu => ?_⟩
          · rintro (hO | ⟨k1, e1, hk1, hb1⟩)
            · exact hno (.inl hO)
            · rw [lookup_ins] at hk1
              by_cases hkd : k1 = d
              · subst hkd
                rw [upd_at] at hb1
                exact hno (.inr ⟨k, _, hk, by rw [hv]; exact hb1⟩)
              · rw [if_neg hkd, lookup_ins, if_neg hkd] at hk1
                rw [upd_ne _ _ hkd, upd_ne _ _ hkd] at hb1
                exact hno (.inr ⟨k1, e1, (dropH_lookup hk1).1, hb1⟩)
          · have h3 := r3 j u hu
            have hjn : j < n := by have := (Array.getElem?_eq_some_iff.1 hu).1; omega
            have h5 : (i + 1) * n ≤ p.toNat * n := Nat.mul_le_mul_right _ hlt
            rw [Nat.add_mul, Nat.one_mul] at h5
            rw [List.getElem?_take, if_pos (by omega)]; exact h3)
    refine ⟨.slice (some ⟨g, 0, none⟩) p.toNat cap, ⟨_, J2.put (d := some d) (lv := .own d) (by simpa using hdn) (upd_at _ d _).symm⟩, fun w' => ?_⟩
    have hb := bounds_run (b := true) (n := l.length) (cap := cap) (lo := none) (hi := some hi) (l := 0) (h := p) I (.inl ⟨rfl, rfl⟩) (.inr ⟨hi, kk, rfl, hhi⟩) (by omega) h0 h1 hcap w'
    simp only [Option.map_some, Option.map_none, Int.toNat_zero] at hb
    have hadd : ∀ m, (⟨g, 0, none⟩ : Addr).add m = ⟨g, m, none⟩ := fun m => by rw [addr_add, Nat.zero_add]
    simp [execOp, ho, hX, hv, Instr.sliceAt, Instr.slice, run_underlying hu, hb, run_sizeOf hs, hadd]
theorem ok_append_ato (I : Iv Γ σ ρ a w) {o : Oper} {x y : Operand} {t e n by_ k k2 d : Nat} {z : Value} {T T2 : Nat} {l r : List SV} {K : St → Prop} (ho : o.op = .call { callee := .builtin .append, args := #[x, y], argTypes := #[t, t] })
    (hd : o.dst = some d) (hdn : d < Γ.n) (he : elOf Γ.P t = some (e, n)) (hz : zeroOf Γ.P e = some z) (hzn : z.cells.size = n) (hb : bytOf Γ.P e = some by_)
    (hX : a.eval x = ρ k) (hnm : ∀ t lv, σ.t.lookup t = some lv → lv.mentions k = false) (hk : σ.h.lookup k = some (.row n T l)) (hT : T = e) (hi : Γ.inn k = none) (hbox : ∀ k1 e1, k1 ≠ k → σ.h.lookup k1 = some e1 → e1.mentions k = false)
    (hy : σ.ev y = .own k2) (hk2 : σ.h.lookup k2 = some (.row n T2 r)) (hr : r ≠ []) (h1 : ∀ s ∈ r, ((∃ c, s = .agg c) ∨ s.one = true)) (h63 : l.length + r.length ≤ maxLen) (hbytes : (l.length + r.length) * by_ ≤ 140737488355328)
    (hK : K ⟨(d, .own k) :: σ.t, ins k (.row n T (l ++ r)) σ.h⟩) : XOk Γ a w o False K := by
  subst hT
  obtain ⟨hu, hs⟩ := elOf_spec he
  have hY : a.eval y = ρ k2 := by have := I.ev y; rw [hy] at this; exact this
  obtain ⟨hz0, xs, vals0, hown, hrep⟩ := I.ent k _ hk
  obtain ⟨_, news, vals1, hown2, n4⟩ := I.ent k2 _ hk2
  have hrl : 0 < r.length := List.length_pos_iff.2 hr
  rcases hown2.2 with ⟨_, h⟩ | ⟨g, c, cur2, hv2, hbg2, hg2, hcap2, hcm2, hcs2, htake2⟩
  · omega
  rw [hv2] at hown2 hY
  have n1 : news.length = r.length * n := hown2.1
  have n2 : ∀ (j : Nat) (u : Value), news[j]? = some u → w.cell? ((⟨g, 0, none⟩ : Addr).add j) = some u := hown2.cells (g := g) rfl
  have n3 : ∀ u ∈ news, u.oneCell' = true := by
    intro u hu'
    obtain ⟨m, hm⟩ := List.mem_iff_getElem?.1 hu'
    have hmlt : m < r.length * n := by have := (List.getElem?_eq_some_iff.1 hm).1; omega
    have g1 : m / n < r.length := Nat.div_lt_of_lt_mul (by rw [Nat.mul_comm]; exact hmlt)
    have hsr := List.getElem?_eq_getElem g1
    obtain ⟨q1, q2, q3⟩ := n4 _ _ hsr
    obtain ⟨k1', k2'⟩ := sv_cells q1 (h1 _ (List.getElem_mem g1))
    have hmn : m % n < n := Nat.mod_lt _ hz0
    have hlt : m % n < (vals1 (m / n)).cells.size := by omega
    have h4 := Array.getElem?_eq_getElem hlt
    have h5 := q3 _ _ h4
    have h6 : m / n * n + m % n = m := by rw [Nat.mul_comm, Nat.div_add_mod]
    rw [h6, hm] at h5
    have hlt' : m % n < (r[m / n]).cells.length := by omega
    have h7 := (k2' (m % n) _ _ (List.getElem?_eq_getElem hlt') h4).2
    rw [Option.some.inj h5]; exact h7
  unfold zeroOf at hz
  unfold szOf at hs
  unfold bytOf at hb
  cases hinfo : Γ.P.info? T with
  | none => simp [hinfo] at hz
  | some i =>
    simp only [hinfo, Option.bind_some, Option.map_some, Option.some.injEq] at hz hs hb
    obtain ⟨v', w', h2, h3, h4, h5⟩ := run_append_mine (P := Γ.P) w t o.type T i z n by_ hu hinfo hz hs hb hzn hz0 (ρ k) l.length xs hown ⟨g, 0, none⟩ r.length c news n1 n2 n3 h63 hbytes
    have run : (execOp a.eval o).run Γ.P w = .ok (.value v') w' := by
      simp [execOp, ho, resolve, invoke, builtin, hX, hY, h2]
    unfold XOk oN
    rw [run]
    refine ⟨_, hK, ⟨upd ρ k v', ?_⟩, fun h => h.elim⟩
    have kp : Kp w (Own Γ σ.h ρ) w' (Own Γ (ins k (.row n T (l ++ r)) σ.h) (upd ρ k v')) := by
      intro b hlt hno
      refine ⟨h4.block b hlt fun hbk => hno (.inr ⟨k, _, hk, hbk.symm⟩), ?_⟩
      rintro (hO | ⟨k1, e1, hk1, hb1⟩)
      · exact hno (.inl hO)
      · rw [lookup_ins] at hk1
        by_cases hkk : k1 = k
        · subst hkk
          rw [upd_at] at hb1
          rcases (h5 b hb1).2 with h | h
          · omega
          · exact hno (.inr ⟨k1, _, hk, h⟩)
        · rw [if_neg hkk] at hk1
          rw [upd_ne _ _ hkk] at hb1
          exact hno (.inr ⟨k1, e1, hk1, hb1⟩)
    have I' := I.heap (t' := σ.t) (k := k) (e := .row n T (l ++ r)) (v' := v') (w' := w') (fun t lv h => .inl h)
      (.inr ⟨hnm, hbox⟩) ⟨h4.os, h4.tape, h4.output, h4.size⟩ (fun b hlt hne => h4.block b hlt fun hbk => hne _ hk hbk.symm)
      (fun b hb => ⟨(h5 b hb).1, (h5 b hb).2.imp id fun h => ⟨_, hk, h⟩⟩) (by rw [hi]; intro v h; cases h) (by
        refine ⟨hz0, xs ++ news, fun i => if i < l.length then vals0 i else vals1 (i - l.length), ?_, ?_⟩
        · rw [upd_at, List.length_append]; exact h3
        · intro i s hs'
          have hxl : xs.length = l.length * n := hown.1
          by_cases hil : i < l.length
          · simp only [hil, if_true]
            rw [List.getElem?_append_left hil] at hs'
            obtain ⟨r1, r2, r3⟩ := hrep i s hs'
            refine ⟨r1.kp kp, r2, fun j u hu' => ?_⟩
            have hh := r3 j u hu'
            rw [List.getElem?_append_left (List.getElem?_eq_some_iff.1 hh).1]; exact hh
          · simp only [hil, if_false]
            rw [List.getElem?_append_right (by omega)] at hs'
            obtain ⟨r1, r2, r3⟩ := n4 _ s hs'
            refine ⟨r1.kp kp, r2, fun j u hu' => ?_⟩
            have hh := r3 j u hu'
            have hge : l.length * n ≤ i * n := Nat.mul_le_mul_right _ (by omega)
            rw [List.getElem?_append_right (by omega), hxl]
            rw [show i * n + j - l.length * n = (i - l.length) * n + j by rw [Nat.sub_mul]; omega]
            exact hh)
    have := I'.put (d := some d) (lv := .own k) (v := v') (by simpa using hdn) (upd_at ρ k v').symm
    rw [hd]
    exact this
end
section
variable {Γ : Ctx} {ops : Array Oper} {l : List (Oper × Nat)} {t : List (Nat × LV)} {h : List (Nat × Ent)} {K : St → Prop} {c d ty : Nat} {ps : String} {af : Array Edge} {x y : Operand}
/-- The first elements of a row of ours, under a new name; the old name's row is no more. -/
theorem q_slp {S k n T e : Nat} {kk : IntKind} {p : Int} {hi : Operand} {r : List SV} (he : elOf Γ.P S = some (e, n)) (hx : St.ev ⟨t, h⟩ x = .own k) (hh : h.lookup k = some (.row n T r)) (hr : 0 < r.length) (hhi : St.ev ⟨t, h⟩ hi = .sv (.raw (.int kk p))) (h0 : 0 ≤ p) (h1 : p ≤ r.length)
    (hf : St.free ⟨t, h⟩ d = true) (hi0 : Γ.inn d = none)
    (hk : RunL Γ ops l ⟨(d, .own d) :: t, ins d (.row n T (r.take p.toNat)) (ins d (.row n T r) (dropH k h))⟩ K) : RunL Γ ops ((⟨some d, .slice S x none (some hi) none, ty, ps, af, none⟩, c) :: l) ⟨t, h⟩ K := by
  intro hd a w ⟨ρ, I⟩
  simp only [List.all_cons, Bool.and_eq_true] at hd
  obtain ⟨v, I', hrun⟩ := ok_slicep (d := d) (o := ⟨some d, .slice S x none (some hi) none, ty, ps, af, none⟩) I rfl he hx hh hr hhi h0 h1 hf (by simpa [dstOk] using hd.1) hi0
  unfold wpP
  split
  · exact ⟨v, .inl ⟨wanted_none rfl _, fun w' _ => hrun w'⟩, hk hd.2 _ _ I'⟩
  · rw [if_pos (wanted_none rfl _)]
    unfold oN
    rw [hrun w]
    exact ⟨fun _ => Ext.refl w, hk hd.2 _ _ I'⟩
/-- An append of a row of ours to another row of ours. -/
theorem q_appo {S e n by_ k k2 T2 : Nat} (z : Value) {r q : List SV} (he : elOf Γ.P S = some (e, n)) (hz : zeroOf Γ.P e = some z) (hzn : z.cells.size = n) (hb : bytOf Γ.P e = some by_)
    (hx : St.ev ⟨t, h⟩ x = .own k) (hh : h.lookup k = some (.row n e r)) (hf : St.free ⟨t, h⟩ d = true) (hi : Γ.inn d = none) (hy : St.ev ⟨t, h⟩ y = .own k2) (hk2 : (ins d (Ent.row n e r) (dropH k h)).lookup k2 = some (.row n T2 q)) (hq : q ≠ []) (h1 : ∀ s ∈ q, ((∃ c, s = .agg c) ∨ s.one = true)) (h63 : r.length + q.length ≤ maxLen) (hbytes : (r.length + q.length) * by_ ≤ 140737488355328)
    (hk : RunL Γ ops l ⟨(d, .own d) :: t, ins d (.row n e (r ++ q)) (ins d (.row n e r) (dropH k h))⟩ K) :
    RunL Γ ops ((⟨some d, .call { callee := .builtin .append, args := #[x, y], argTypes := #[S, S] }, ty, ps, af, none⟩, 2) :: l) ⟨t, h⟩ K := by
  refine run_x (ext := False) rfl (by omega) (fun h => (h rfl).elim) fun a w ρ I hd => ?_
  have hX : a.eval x = ρ k := by have := I.ev x; rw [hx] at this; exact this
  obtain ⟨f1, f2⟩ := free_rekey (σ := ⟨t, h⟩) (k := k) (e := .row n e r) hf
  exact ok_append_ato (σ := ⟨t, ins d (.row n e r) (dropH k h)⟩) (I.rekey hf hh hi) (k := d) rfl rfl (by simpa [dstOk] using hd) he hz hzn hb (by rw [upd_at]; exact hX) f1 (by rw [lookup_ins, if_pos rfl]) rfl hi f2 hy hk2 hq h1 h63 hbytes hk
end
end Go.Abs

/- Two structs of numbers that are the same: not unlike. No condition. -/
namespace Go.Abs
open Go Go.RowKit Go.Eager
set_option linter.unusedVariables false
set_option linter.unusedSimpArgs false
/-- A struct of numbers, n of them. -/
structure IntsT (P : Program) (T : TypeId) (n : Nat) : Prop where
  under : P.underlying T = some (.struct (P.fieldsOf T))
  held : P.stoodInHeld T = false
  guard : P.eqGuardType P.depth T = false
  parts : ∀ f ∈ (P.fieldsOf T).toList, f.offset < n ∧ ∃ k, P.underlying f.type = some (.int k)
theorem run_eq_ints {P : Program} {xs : Array Value} {n : Nat} (d : Nat) (hx : ∀ j, j < n → ∃ k m, xs[j]? = some (.int k m)) (w : World) : ∀ fs : List Field, (∀ f ∈ fs, f.offset < n ∧ ∃ k, P.underlying f.type = some (.int k)) → (Op.eqFields (d + 1) xs xs fs).run P w = .ok true w
  | [], _ => by simp [Op.eqFields]
  | f :: fs, h => by
    have ih := run_eq_ints d hx w fs fun g hg => h g (List.mem_cons_of_mem _ hg)
    obtain ⟨h1, k, h2⟩ := h f List.mem_cons_self
    obtain ⟨k', m, h3⟩ := hx f.offset h1
    have ha : aggOf P f.type = some false := by unfold aggOf; rw [h2]; rfl
    simp only [Op.eqFields]
    split
    · simp only [Sem.run_bind, part_one ha h3, Result.andThen_ok, run_equalIn_int w d f.type k' k m m h2, beq_self_eq_true, Bool.not_true, Bool.false_eq_true, if_false]
      exact ih
    · exact ih
section
variable {Γ : Ctx} {ops : Array Oper} {l : List (Oper × Nat)} {t : List (Nat × LV)} {h : List (Nat × Ent)} {K : St → Prop} {c d ty : Nat} {ps : String} {af : Array Edge} {x y : Operand}
/-- Two structs of the same numbers: not unlike. -/
theorem q_nei {T t2 : Nat} (us : List Int) (hT : IntsT Γ.P T us.length) (hx : St.ev ⟨t, h⟩ x = .sv (.agg (us.map fun n => .raw (.int .i64 n)))) (hy : St.ev ⟨t, h⟩ y = .sv (.agg (us.map fun n => .raw (.int .i64 n))))
    (hk : RunL Γ ops l ⟨(d, .sv (.raw (.bool false))) :: t, h⟩ K) :
    RunL Γ ops ((⟨some d, .binOp .neq T x y t2, ty, ps, af, none⟩, c) :: l) ⟨t, h⟩ K := by
  refine run_pure' rfl fun a w ρ I => ?_
  have key : ∀ v : Value, Rep w (Own Γ h ρ) (.agg (us.map fun n => .raw (.int .i64 n))) v → v = .agg (us.map fun n => Value.int .i64 n).toArray := by
    intro v hv
    obtain ⟨vs, rfl, hn⟩ := agg_inv hv
    congr 1
    rw [List.length_map] at hn
    apply Array.ext
    · simp [hn]
    · intro i h1 h2
      have hi : i < us.length := by omega
      obtain ⟨u, e1, r1, -⟩ := agg_cell hv (i := i) (p := .raw (.int .i64 us[i])) (by rw [List.getElem?_map, List.getElem?_eq_getElem hi]; rfl)
      have e2 := rep_raw' r1
      rw [Array.getElem?_eq_getElem h1] at e1
      have e3 := Option.some.inj e1
      rw [e3, e2]
      simp
  have hX := I.ev x
  have hY := I.ev y
  rw [hx] at hX
  rw [hy] at hY
  have ex := key _ hX
  have ey := key _ hY
  refine ⟨_, _, hk, Rep.raw _, fun w' => ?_⟩
  have hg := run_eqGuard_agg (P := Γ.P) w' .neq T x y (us.map fun n => Value.int .i64 n).toArray (us.map fun n => Value.int .i64 n).toArray hT.guard
  have hr : (binOp .neq T (.agg (us.map fun n => Value.int .i64 n).toArray) (.agg (us.map fun n => Value.int .i64 n).toArray)).run Γ.P w' = .ok (.bool false) w' := by
    rw [run_neq_struct, run_equalIn_struct w' 9999 T _ _ hT.under hT.held, run_eq_ints 9998 (fun j hj => ⟨.i64, us[j], by simp [hj]⟩) w' _ hT.parts]
    rfl
  simp [execOp, ex, ey, hg, hr]
end
end Go.Abs
