/- Values whose rows stand apart: copies, handed back. No condition. -/
import Derived.Test.YtlokejcoikddgaaAbsFno
namespace Go.Abs
open Go Go.RowKit Go.Eager
set_option linter.unusedVariables false
/-- A block that one of the zones in a value holds. -/
inductive Zn (b : Nat) : SV → Prop
  | tr (Z : Nat → Prop) (s : SV) (v : Value) (h : Z b) : Zn b (.tr Z s v)
  | agg (l : List SV) (s : SV) (hs : s ∈ l) (h : Zn b s) : Zn b (.agg l)
/-- r is s, its rows in zones, apart. -/
inductive Gd : SV → SV → Prop
  | raw (v : Value) : Gd (.raw v) (.raw v)
  | tr (Z : Nat → Prop) (n : Nat) (l : List SV) (v : Value) : Gd (.tr Z (.sl n l) v) (.sl n l)
  | agg (rs ss : List SV) (hn : rs.length = ss.length) (h : ∀ (i : Nat) (r s : SV), rs[i]? = some r → ss[i]? = some s → Gd r s)
      (hap : ∀ (i j b : Nat) (ri rj : SV), rs[i]? = some ri → rs[j]? = some rj → Zn b ri → Zn b rj → i = j) : Gd (.agg rs) (.agg ss)
theorem zn_raw {b : Nat} {v : Value} (h : Zn b (.raw v)) : False := by cases h
theorem zn_tr {b : Nat} {Z : Nat → Prop} {s : SV} {v : Value} (h : Zn b (.tr Z s v)) : Z b := by cases h; assumption
theorem zn_agg {b : Nat} {l : List SV} (h : Zn b (.agg l)) : ∃ s ∈ l, Zn b s := by cases h with | agg _ s hs h => exact ⟨s, hs, h⟩
theorem Rep.zn {w : World} {O : Nat → Prop} {b : Nat} {r : SV} (hb : Zn b r) : ∀ {v : Value}, Rep w O r v → b < w.heap.size ∧ ¬ O b := by
  induction hb with
  | tr Z s v h => intro v hr; cases hr with | tr _ _ _ hT hZ => exact hZ b h
  | agg l s hs h ih =>
    intro v hr
    cases hr with
    | agg _ vs hn h1 h2 =>
      obtain ⟨i, hi⟩ := List.getElem?_of_mem hs
      have hlt : i < vs.size := by rw [hn]; exact (List.getElem?_eq_some_iff.1 hi).1
      exact ih (h2 i s _ hi (Array.getElem?_eq_getElem hlt))
theorem Gd.tree {w : World} {O : Nat → Prop} {r s : SV} (g : Gd r s) : ∀ {v : Value}, Rep w O r v → Tree w (fun b => Zn b r) s v := by
  induction g with
  | raw v => intro v' h; cases h; exact .raw _ _
  | tr Z n l v => intro v h; cases h with | tr _ _ _ hT hZ => exact hT.mono fun b hb => .tr Z _ _ hb
  | agg rs ss hn h hap ih =>
    intro v hr
    cases hr with
    | agg _ vs hn' h1 h2 =>
      refine .agg _ ss vs (fun i d => ∃ r, rs[i]? = some r ∧ Zn d r) (by rw [hn', hn]) h1 (fun i s u hs hu => ?_) ?_ ?_
      · have hlt : i < rs.length := by rw [hn]; exact (List.getElem?_eq_some_iff.1 hs).1
        exact (ih i rs[i] s (List.getElem?_eq_getElem hlt) hs (h2 i rs[i] u (List.getElem?_eq_getElem hlt) hu)).mono fun b hb => ⟨_, List.getElem?_eq_getElem hlt, hb⟩
      · rintro i d ⟨r, hr, hd⟩
        exact .agg rs r (List.mem_of_getElem? hr) hd
      · rintro i j d ⟨r, hr, hd⟩ ⟨r', hr', hd'⟩
        exact hap i j d r r' hr hr' hd hd'
/-- A function that hands back what is P, new. -/
def PFnR (P : Program) (f : FuncId) (args : List SV) (R : SV → Prop) : Prop :=
  ∀ (w : World) (O : Nat → Prop) (vs : Array Value), (∀ b, O b → b < w.heap.size) → vs.size = args.length →
    (∀ (i : Nat) (s : SV) (u : Value), args[i]? = some s → vs[i]? = some u → Rep w O s u) →
    Calls P f vs w fun e w' => ∃ v r, e = .returned v ∧ Ext w w' ∧ R r ∧ (∀ b, Zn b r → w.heap.size ≤ b) ∧ Rep w' O r v
/-- A copy. -/
@[reducible] def PFnT (P : Program) (f : FuncId) (args : List SV) (s : SV) : Prop := PFnR P f args fun r => Gd r s
/-- Of all zones in slots and rows: another. -/
def Apart (t : List (Nat × LV)) (h : List (Nat × Ent)) (r : SV) : Prop :=
  (∀ k s b, t.lookup k = some (.sv s) → Zn b s → ¬ Zn b r) ∧ ∀ k n T l s b, h.lookup k = some (.row n T l) → s ∈ l → Zn b s → ¬ Zn b r
section
variable {Γ : Ctx} {σ : St} {ρ : Nat → Value} {a : Act} {w : World}
theorem apart_of (I : Iv Γ σ ρ a w) {r : SV} (hr : ∀ b, Zn b r → w.heap.size ≤ b) : Apart σ.t σ.h r := by
  refine ⟨fun k s b hk hb hb' => ?_, fun k n T l s b hk hs hb hb' => ?_⟩
  · have := (Rep.zn hb (I.tmp k _ hk)).1
    have := hr b hb'
    omega
  · obtain ⟨_, xs, vals, _, hel⟩ := I.ent k _ hk
    obtain ⟨i, hi⟩ := List.getElem?_of_mem hs
    have := (Rep.zn hb (hel i s hi).1).1
    have := hr b hb'
    omega
theorem ok_callr (I : Iv Γ σ ρ a w) {o : Oper} {f : FuncId} {fn : Func} {args : Array Operand} {ts : Array TypeId} {sa : List SV} {R : SV → Prop} {K : St → Prop}
    (ho : o.op = .call { callee := .value (.func f), args := args, argTypes := ts }) (hdn : dstOk Γ o = true) (hf : Γ.P.funcs[f]? = some fn) (hname : (fn.name == "runtime.NumGoroutine") = false) (hb : fn.body.isNone = false)
    (ha : args.toList.map σ.ev = sa.map LV.sv) (hc : PFnR Γ.P f sa R) (hk : ∀ r, R r → (∀ b, Zn b r → Γ.w0.heap.size ≤ b) → Apart σ.t σ.h r → K (σ.put o.dst (.sv r))) : XOk Γ a w o True K := by
  have hrun : (execOp a.eval o).run Γ.P w = .ok (.enter f (args.map a.eval)) w := by
    have hY : a.eval (.func f) = .func (.func f) #[] #[] := rfl
    simp [execOp, ho, resolve, hY, Deferred.ofValue, invoke, run_callFunc hf hname hb]
  have hsz : (args.map a.eval).size = sa.length := by have := congrArg List.length ha; simp at this; simp [this]
  unfold XOk oN
  rw [hrun]
  refine (hc w (Own Γ σ.h ρ) (args.map a.eval) (fun b hb => blk_lt I hb) hsz fun i s u hi' hu => ?_).mono ?_
  · have h3 : (args.toList.map σ.ev)[i]? = some (.sv s) := by rw [ha, List.getElem?_map, hi']; rfl
    rw [Array.getElem?_map] at hu
    rw [List.getElem?_map] at h3
    cases hx : args[i]? with
    | none => simp [hx] at hu
    | some x =>
      have hx' : args.toList[i]? = some x := by simpa using hx
      simp only [hx', Option.map_some, Option.some.injEq] at h3
      simp only [hx, Option.map_some, Option.some.injEq] at hu
      subst hu
      have := I.ev x
      rw [h3] at this
      exact this
  · rintro e w' ⟨v, r, he, hx, hR, hn, hv⟩
    exact ⟨v, he, _, hk r hR (fun b hb => Nat.le_trans I.frm.size (hn b hb)) (apart_of I hn), ⟨ρ, (I.ext hx).put (dstOk_spec hdn) hv⟩, fun _ => hx⟩
/-- A row of ours of good copies is a tree. -/
theorem row_tree (I : Iv Γ σ ρ a w) {k n T : Nat} {rs ss : List SV} (hk : σ.h.lookup k = some (.row n T rs)) (hl : rs.length = ss.length) (hg : ∀ (i : Nat) (r s : SV), rs[i]? = some r → ss[i]? = some s → Gd r s)
    (hap : ∀ (i j b : Nat) (ri rj : SV), rs[i]? = some ri → rs[j]? = some rj → Zn b ri → Zn b rj → i = j) :
    Tree w (fun b => blk (ρ k) = some b ∨ ∃ r ∈ rs, Zn b r) (.sl n ss) (ρ k) := by
  obtain ⟨hz, xs, vals, hown, hel⟩ := I.ent k _ hk
  rcases hown.2 with ⟨h1, h2⟩ | ⟨b, cap, cur, h1, _, hgb, hcap, hmax, hcs, htk⟩
  · have : ss = [] := List.eq_nil_of_length_eq_zero (by omega)
    rw [this, h1]; exact .nil _ _ _ _
  · have hbk : blk (ρ k) = some b := by rw [h1]; rfl
    by_cases h0 : rs.length = 0
    · have : ss = [] := List.eq_nil_of_length_eq_zero (by omega)
      rw [this, h1, h0]; exact .nil _ _ _ _
    · have hOb : Own Γ σ.h ρ b := .inr ⟨k, _, hk, hbk⟩
      rw [h1, hl]
      refine .sl _ n T ss b cap cur vals (fun i d => ∃ r, rs[i]? = some r ∧ Zn d r) (.inl rfl) (by omega) (by omega) hz hmax hcs hgb (fun i s hs => ?_) (fun i hi => ?_) (fun i hi j u hu => ?_) ?_ ?_
      · have hlt : i < rs.length := by rw [hl]; exact (List.getElem?_eq_some_iff.1 hs).1
        exact ((hg i rs[i] s (List.getElem?_eq_getElem hlt) hs).tree (hel i rs[i] (List.getElem?_eq_getElem hlt)).1).mono fun d hd => ⟨_, List.getElem?_eq_getElem hlt, hd⟩
      · exact (hel i rs[i] (List.getElem?_eq_getElem (by omega))).2.1
      · have hlt : i < rs.length := by omega
        have h3 := (hel i rs[i] (List.getElem?_eq_getElem hlt)).2.2 j u hu
        have hjn : j < n := by
          have h4 := (hel i rs[i] (List.getElem?_eq_getElem hlt)).2.1
          have := (Array.getElem?_eq_some_iff.1 hu).1
          omega
        have hlt2 : i * n + j < rs.length * n := by
          have : (i + 1) * n ≤ rs.length * n := Nat.mul_le_mul_right n hlt
          rw [Nat.add_mul, Nat.one_mul] at this
          omega
        rw [← htk, List.getElem?_take, if_pos hlt2, Array.getElem?_toList] at h3
        exact h3
      · rintro i d ⟨r, hr, hd⟩
        have hmem := List.mem_of_getElem? hr
        refine ⟨.inr ⟨r, hmem, hd⟩, fun e => ?_⟩
        exact (Rep.zn hd (hel i r hr).1).2 (e ▸ hOb)
      · rintro i j d ⟨r, hr, hd⟩ ⟨r', hr', hd'⟩
        exact hap i j d r r' hr hr' hd hd'
end
/-- Only blocks of Z are changed. -/
structure Chg (Z : Nat → Prop) (w w' : World) : Prop where
  os : w'.os = w.os
  tape : w'.tape = w.tape
  output : w'.output = w.output
  size : w.heap.size ≤ w'.heap.size
  block : ∀ b, b < w.heap.size → ¬ Z b → w'.heap[b]? = w.heap[b]?
/-- What a function says that writes into a tree. -/
def MarkC (P : Program) (f : FuncId) (s : SV) (k : Int) (R : Int → SV → Prop) : Prop :=
  ∀ (w : World) (Z : Nat → Prop) (v : Value), Tree w Z s v → (∀ b, Z b → b < w.heap.size) →
    Calls P f #[v, .int .i64 k] w fun e w' => ∃ k' s', e = .returned (.int .i64 k') ∧ R k' s' ∧ Chg Z w w' ∧ Tree w' Z s' v
/-- What becomes of a value when the tree s at v, in Z, has become s'. -/
inductive Mk (Z : Nat → Prop) (s s' : SV) (v : Value) : SV → SV → Prop
  | raw (u : Value) : Mk Z s s' v (.raw u) (.raw u)
  | same : Mk Z s s' v (.tr Z s v) (.tr Z s' v)
  | other (Z2 : Nat → Prop) (s2 : SV) (v2 : Value) (h : ∀ b, Z2 b → ¬ Z b) : Mk Z s s' v (.tr Z2 s2 v2) (.tr Z2 s2 v2)
  | agg (l l' : List SV) (hn : l'.length = l.length) (h : ∀ (i : Nat) (x x' : SV), l[i]? = some x → l'[i]? = some x' → Mk Z s s' v x x') : Mk Z s s' v (.agg l) (.agg l')
inductive MkL (Z : Nat → Prop) (s s' : SV) (v : Value) : LV → LV → Prop
  | sv {r r' : SV} (h : Mk Z s s' v r r') : MkL Z s s' v (.sv r) (.sv r')
  | av {Z2 : Nat → Prop} {s2 : SV} (h : ∀ b, Z b → Z2 b) : MkL Z s s' v (.av Z2 s2) (.av Z2 s2)
  | own {k : Nat} : MkL Z s s' v (.own k) (.own k)
  | ptr {k j : Nat} : MkL Z s s' v (.ptr k j) (.ptr k j)
  | dead {lv : LV} : MkL Z s s' v lv .dead
inductive MkE (Z : Nat → Prop) (s s' : SV) (v : Value) : Ent → Ent → Prop
  | box {c c' : List LV} (hn : c'.length = c.length) (h : ∀ (i : Nat) (x x' : LV), c[i]? = some x → c'[i]? = some x' → MkL Z s s' v x x') : MkE Z s s' v (.box c) (.box c')
  | row {n T : Nat} {l l' : List SV} (hn : l'.length = l.length) (h : ∀ (i : Nat) (x x' : SV), l[i]? = some x → l'[i]? = some x' → Mk Z s s' v x x') : MkE Z s s' v (.row n T l) (.row n T l')
def MkT (Z : Nat → Prop) (s s' : SV) (v : Value) : List (Nat × LV) → List (Nat × LV) → Prop
  | [], [] => True
  | (k, lv) :: t, (k', lv') :: t' => k = k' ∧ MkL Z s s' v lv lv' ∧ MkT Z s s' v t t'
  | _, _ => False
def MkH (Z : Nat → Prop) (s s' : SV) (v : Value) : List (Nat × Ent) → List (Nat × Ent) → Prop
  | [], [] => True
  | (k, e) :: t, (k', e') :: t' => k = k' ∧ MkE Z s s' v e e' ∧ MkH Z s s' v t t'
  | _, _ => False
theorem mkT_lookup {Z : Nat → Prop} {s s' : SV} {v : Value} {k : Nat} {lv' : LV} : ∀ {t t' : List (Nat × LV)}, MkT Z s s' v t t' → t'.lookup k = some lv' → ∃ lv, t.lookup k = some lv ∧ MkL Z s s' v lv lv'
  | [], [], _, h => by simp at h
  | [], _ :: _, h, _ => h.elim
  | _ :: _, [], h, _ => h.elim
  | (a, lv) :: t, (a', x) :: t', ⟨he, hm, ht⟩, h => by
    subst he
    rw [List.lookup_cons] at h ⊢
    cases hk : (k == a) with
    | true => simp only [hk, Option.some.injEq] at h ⊢; subst h; exact ⟨lv, rfl, hm⟩
    | false => simp only [hk] at h ⊢; exact mkT_lookup ht h
theorem mkH_lookup {Z : Nat → Prop} {s s' : SV} {v : Value} {k : Nat} {e' : Ent} : ∀ {t t' : List (Nat × Ent)}, MkH Z s s' v t t' → t'.lookup k = some e' → ∃ e, t.lookup k = some e ∧ MkE Z s s' v e e'
  | [], [], _, h => by simp at h
  | [], _ :: _, h, _ => h.elim
  | _ :: _, [], h, _ => h.elim
  | (a, lv) :: t, (a', x) :: t', ⟨he, hm, ht⟩, h => by
    subst he
    rw [List.lookup_cons] at h ⊢
    cases hk : (k == a) with
    | true => simp only [hk, Option.some.injEq] at h ⊢; subst h; exact ⟨lv, rfl, hm⟩
    | false => simp only [hk] at h ⊢; exact mkH_lookup ht h
theorem Mk.rep {Z : Nat → Prop} {s s' : SV} {v : Value} {w w' : World} {O O' : Nat → Prop} (hc : Chg Z w w') (hT : Tree w' Z s' v) (hZ : ∀ b, Z b → b < w.heap.size ∧ ¬ O b) (hO : ∀ b, b < w.heap.size → ¬ O b → ¬ O' b) {r r' : SV} (m : Mk Z s s' v r r') : ∀ {u : Value}, Rep w O r u → Rep w' O' r' u := by
  induction m with
  | raw x => intro u h; cases h; exact .raw _
  | same => intro u h; cases h with | tr _ _ _ h1 h2 => exact .tr Z s' v hT fun b hb => ⟨Nat.lt_of_lt_of_le (hZ b hb).1 hc.size, hO b (hZ b hb).1 (hZ b hb).2⟩
  | other Z2 s2 v2 hd =>
    intro u h
    cases h with
    | tr _ _ _ h1 h2 =>
      exact .tr Z2 s2 _ (h1.keep fun b hb => hc.block b (h2 b hb).1 (hd b hb)) fun b hb => ⟨Nat.lt_of_lt_of_le (h2 b hb).1 hc.size, hO b (h2 b hb).1 (h2 b hb).2⟩
  | agg l l' hn _ ih =>
    intro u h
    cases h with
    | agg _ vs hn' h1 h2 =>
      refine .agg l' vs (by rw [hn', hn]) h1 fun i x' y hx' hy => ?_
      have hlt : i < l.length := by rw [← hn]; exact (List.getElem?_eq_some_iff.1 hx').1
      exact ih i l[i] x' (List.getElem?_eq_getElem hlt) hx' (h2 i l[i] y (List.getElem?_eq_getElem hlt) hy)
section
variable {Γ : Ctx} {σ : St} {ρ : Nat → Value} {a : Act} {w : World}
theorem Iv.mark (I : Iv Γ σ ρ a w) {Z : Nat → Prop} {s s' : SV} {v : Value} {w' : World} {t' : List (Nat × LV)} {h' : List (Nat × Ent)} (hc : Chg Z w w') (hT : Tree w' Z s' v) (hZ : ∀ b, Z b → b < w.heap.size ∧ ¬ Own Γ σ.h ρ b)
    (hM : ∀ b, Z b → Γ.w0.heap.size ≤ b ∨ Γ.M b) (ht : MkT Z s s' v σ.t t') (hh : MkH Z s s' v σ.h h') : Iv Γ ⟨t', h'⟩ ρ a w' := by
  have hO : ∀ b, ¬ Own Γ σ.h ρ b → ¬ Own Γ h' ρ b := by
    rintro b hno (hb | ⟨k, e, hk, hb⟩)
    · exact hno (.inl hb)
    · obtain ⟨e0, hk0, _⟩ := mkH_lookup hh hk
      exact hno (.inr ⟨k, e0, hk0, hb⟩)
  have hL : ∀ {lv lv' : LV} {u : Value}, MkL Z s s' v lv lv' → LRep w (Own Γ σ.h ρ) ρ lv u → LRep w' (Own Γ h' ρ) ρ lv' u := by
    intro lv lv' u hm hr
    cases hm with
    | sv m => exact m.rep hc hT hZ (fun b _ h => hO b h) hr
    | @av Z2 s2 hs =>
      refine Rep.kp (O := fun b => Own Γ σ.h ρ b ∨ Z2 b) (O' := fun b => Own Γ h' ρ b ∨ Z2 b) hr fun b hb hno => ⟨hc.block b hb fun h => hno (.inr (hs b h)), ?_⟩
      exact fun h => h.elim (hO b fun h => hno (.inl h)) fun h => hno (.inr h)
    | own => exact hr
    | ptr => exact hr
    | dead => exact trivial
  have hblk : ∀ k e b, σ.h.lookup k = some e → blk (ρ k) = some b → w'.heap[b]? = w.heap[b]? := by
    intro k e b hk hb
    exact hc.block b (I.new k e b hk hb).2 fun h => (hZ b h).2 (.inr ⟨k, e, hk, hb⟩)
  refine ⟨I.dfr, I.size, ⟨hc.os.trans I.frm.os, hc.tape.trans I.frm.tape, hc.output.trans I.frm.output, Nat.le_trans I.frm.size hc.size, fun b hb hm => ?_⟩, ?_, ?_, ?_, ?_, I.out, I.inn⟩
  · refine (hc.block b (Nat.lt_of_lt_of_le hb I.frm.size) fun h => ?_).trans (I.frm.block b hb hm)
    rcases hM b h with h1 | h1
    · omega
    · exact hm h1
  · intro k lv' hk
    obtain ⟨lv, hk0, hm⟩ := mkT_lookup ht hk
    exact hL hm (I.tmp k lv hk0)
  · intro k e' hk
    obtain ⟨e, hk0, hm⟩ := mkH_lookup hh hk
    have he := I.ent k e hk0
    cases hm with
    | box hn hcs =>
      rename_i c c'
      obtain ⟨b, T, cur, h1, h2, h3, h4⟩ := he
      refine ⟨b, T, cur, h1, (hblk k _ b hk0 (by rw [h1]; rfl)).trans h2, by rw [h3, hn], fun j lv' u hj hu => ?_⟩
      have hlt : j < c.length := by rw [← hn]; exact (List.getElem?_eq_some_iff.1 hj).1
      exact ⟨hL (hcs j c[j] lv' (List.getElem?_eq_getElem hlt) hj) (h4 j c[j] u (List.getElem?_eq_getElem hlt) hu).1, (h4 j c[j] u (List.getElem?_eq_getElem hlt) hu).2⟩
    | row hn hcs =>
      rename_i n T l l'
      obtain ⟨hz, xs, vals, hown, hel⟩ := he
      refine ⟨hz, xs, vals, ?_, fun i x' hi => ?_⟩
      · rw [hn]
        refine ⟨hown.1, ?_⟩
        rcases hown.2 with h | ⟨g, cap, cur, e1, e2, e3, rest⟩
        · exact .inl h
        · exact .inr ⟨g, cap, cur, e1, e2, (hblk k _ g hk0 (by rw [e1]; rfl)).trans e3, rest⟩
      · have hlt : i < l.length := by rw [← hn]; exact (List.getElem?_eq_some_iff.1 hi).1
        obtain ⟨r1, r2, r3⟩ := hel i l[i] (List.getElem?_eq_getElem hlt)
        exact ⟨(hcs i l[i] x' (List.getElem?_eq_getElem hlt) hi).rep hc hT hZ (fun b _ h => hO b h) r1, r2, r3⟩
  · intro k e' b hk hb
    obtain ⟨e, hk0, _⟩ := mkH_lookup hh hk
    exact ⟨(I.new k e b hk0 hb).1, Nat.lt_of_lt_of_le (I.new k e b hk0 hb).2 hc.size⟩
  · intro k k' e e' b hk hk' hb hb'
    obtain ⟨e0, hk0, _⟩ := mkH_lookup hh hk
    obtain ⟨e1, hk1, _⟩ := mkH_lookup hh hk'
    exact I.sep k k' e0 e1 b hk0 hk1 hb hb'
end
section
variable {Γ : Ctx} {ops : Array Oper} {l : List (Oper × Nat)} {t : List (Nat × LV)} {h : List (Nat × Ent)} {K : St → Prop} {c d ty : Nat} {ps : String} {af : Array Edge} {x y : Operand}
/-- A call that hands back a copy, new. -/
theorem q_callr {f : Nat} {args : Array Operand} {ts : Array Nat} {sa : List SV} {R : SV → Prop} (hc : PFnR Γ.P f sa R) (hcl : Calb Γ.P f) (ha : args.toList.map (St.ev ⟨t, h⟩) = sa.map LV.sv)
    (hk : ∀ r, R r → (∀ b, Zn b r → Γ.w0.heap.size ≤ b) → Apart t h r → RunL Γ ops l ⟨(d, .sv r) :: t, h⟩ K) :
    RunL Γ ops ((⟨some d, .call { callee := .value (.func f), args := args, argTypes := ts }, ty, ps, af, none⟩, c + 2) :: l) ⟨t, h⟩ K :=
  let ⟨_, hf', hname, hb⟩ := hcl
  run_x (ext := True) rfl (by omega) (fun _ => trivial) fun _ _ _ I hd => ok_callr I rfl hd hf' hname hb ha hc hk
/-- A call that writes into a tree. -/
theorem q_mark {f : Nat} {ts : Array Nat} {Z : Nat → Prop} {s : SV} {v : Value} {k : Int} {R : Int → SV → Prop} (hc : MarkC Γ.P f s k R) (hcl : Calb Γ.P f) (hx : St.ev ⟨t, h⟩ x = .sv (.tr Z s v)) (hy : St.ev ⟨t, h⟩ y = .sv (.raw (.int .i64 k)))
    (hM : ∀ b, Z b → Γ.w0.heap.size ≤ b ∨ Γ.M b) (t' : SV → List (Nat × LV)) (h' : SV → List (Nat × Ent)) (ht : ∀ s', MkT Z s s' v t (t' s')) (hh : ∀ s', MkH Z s s' v h (h' s'))
    (hk : ∀ k' s', R k' s' → RunL Γ ops l ⟨(d, .sv (.raw (.int .i64 k'))) :: t' s', h' s'⟩ K) :
    RunL Γ ops ((⟨some d, .call { callee := .value (.func f), args := #[x, y], argTypes := ts }, ty, ps, af, none⟩, 2) :: l) ⟨t, h⟩ K := by
  obtain ⟨fn, hf', hname, hb⟩ := hcl
  refine run_x (ext := False) rfl (by omega) (fun h => (h rfl).elim) fun a w ρ I hd => ?_
  have hX := I.ev x
  rw [hx] at hX
  have hY : a.eval y = .int .i64 k := ev_raw I hy
  have hrun : (execOp a.eval ⟨some d, .call { callee := .value (.func f), args := #[x, y], argTypes := ts }, ty, ps, af, none⟩).run Γ.P w = .ok (.enter f #[a.eval x, .int .i64 k]) w := by
    have hF : a.eval (.func f) = .func (.func f) #[] #[] := rfl
    simp [execOp, resolve, hF, Deferred.ofValue, invoke, run_callFunc hf' hname hb, hY]
  unfold XOk oN
  rw [hrun]
  generalize a.eval x = u at hX hrun
  cases hX with
  | tr _ _ _ hT hZ =>
    refine (hc w Z v hT fun b hb => (hZ b hb).1).mono ?_
    rintro e w' ⟨k', s', he, hR, hC, hT'⟩
    exact ⟨_, he, _, hk k' s' hR, ⟨ρ, (I.mark hC hT' hZ hM (ht s') (hh s')).put (d := some d) (by simpa [dstOk] using hd) (Rep.raw _)⟩, fun h => h.elim⟩
end
end Go.Abs
