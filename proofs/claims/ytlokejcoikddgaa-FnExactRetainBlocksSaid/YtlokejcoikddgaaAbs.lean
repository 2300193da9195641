/- What memory says, as plain values: a value read to the bottom, a frame as a list of slots, and what each operation does to them. No condition. -/
import Derived.Test.YtlokejcoikddgaaEager
import Derived.Laws.AppendOwn
import Derived.Laws.OwnMore
import Derived.Tactics
import Derived.WalkKit
namespace Go.Abs
open Go Go.RowKit Go.Eager

/-- A value, read to the bottom: what it leads to stays as it is. -/
inductive SV where
  | raw (v : Value)
  | sl (sz : Nat) (l : List SV)
  | agg (l : List SV)
  | tup (l : List SV)
  | ptr (p : SV)
  | tr (Z : Nat → Prop) (s : SV) (v : Value)
  | clo (f : Nat) (l : List SV)
  deriving Inhabited

/-- A value whose rows stand each in a block of its own, all of them among the blocks of Z. -/
inductive Tree (w : World) : (Nat → Prop) → SV → Value → Prop
  | raw (Z : Nat → Prop) (v : Value) : Tree w Z (.raw v) v
  | nil (Z : Nat → Prop) (sz : Nat) (a : Option Addr) (c : Nat) : Tree w Z (.sl sz []) (.slice a 0 c)
  | sl (Z : Nat → Prop) (sz T : Nat) (l : List SV) (b c : Nat) (cur : Array Value) (vals : Nat → Value) (z : Nat → Nat → Prop) (hb : Z b) (hl : 0 < l.length) (hc : l.length ≤ c) (hz : 0 < sz) (hcm : c ≤ maxLen) (hcs : cur.size = c * sz)
      (hg : w.heap[b]? = some (.cells cur T (0, 0))) (hel : ∀ (i : Nat) (s : SV), l[i]? = some s → Tree w (z i) s (vals i)) (hsz : ∀ i : Nat, i < l.length → (vals i).cells.size = sz)
      (hcl : ∀ i : Nat, i < l.length → ∀ (j : Nat) (u : Value), (vals i).cells[j]? = some u → cur[i * sz + j]? = some u)
      (hzn : ∀ i d, z i d → Z d ∧ d ≠ b) (hap : ∀ i j d, z i d → z j d → i = j) : Tree w Z (.sl sz l) (.slice (some ⟨b, 0, none⟩) l.length c)
  | agg (Z : Nat → Prop) (l : List SV) (vs : Array Value) (z : Nat → Nat → Prop) (hn : vs.size = l.length) (h1 : ∀ (i : Nat) (u : Value), vs[i]? = some u → u.oneCell' = true)
      (h : ∀ (i : Nat) (s : SV) (u : Value), l[i]? = some s → vs[i]? = some u → Tree w (z i) s u) (hzn : ∀ i d, z i d → Z d) (hap : ∀ i j d, z i d → z j d → i = j) : Tree w Z (.agg l) (.agg vs)
theorem Tree.keep {w w' : World} {Z : Nat → Prop} {s : SV} {v : Value} (h : Tree w Z s v) (hk : ∀ b, Z b → w'.heap[b]? = w.heap[b]?) : Tree w' Z s v := by
  induction h with
  | raw Z v => exact .raw Z v
  | nil Z sz a c => exact .nil Z sz a c
  | sl Z sz T l b c cur vals z hb hl hc hz hcm hcs hg hel hsz hcl hzn hap ih => exact .sl Z sz T l b c cur vals z hb hl hc hz hcm hcs (by rw [hk b hb]; exact hg) (fun i s hi => ih i s hi fun d hd => hk d (hzn i d hd).1) hsz hcl hzn hap
  | agg Z l vs z hn h1 h hzn hap ih => exact .agg Z l vs z hn h1 (fun i s u hs hu => ih i s u hs hu fun d hd => hk d (hzn i d hd)) hzn hap
theorem Tree.mono {w : World} {Z Z' : Nat → Prop} {s : SV} {v : Value} (h : Tree w Z s v) (hz : ∀ b, Z b → Z' b) : Tree w Z' s v := by
  cases h with
  | raw Z v => exact .raw _ v
  | nil Z sz a c => exact .nil _ sz a c
  | sl Z sz T l b c cur vals z hb hl hc hz0 hcm hcs hg hel hsz hcl hzn hap => exact .sl _ sz T l b c cur vals z (hz b hb) hl hc hz0 hcm hcs hg hel hsz hcl (fun i d hd => ⟨hz d (hzn i d hd).1, (hzn i d hd).2⟩) hap
  | agg Z l vs z hn h1 h hzn hap => exact .agg _ l vs z hn h1 h (fun i d hd => hz d (hzn i d hd)) hap

inductive Rep (w : World) (O : Nat → Prop) : SV → Value → Prop
  | raw (v : Value) : Rep w O (.raw v) v
  | nil (sz : Nat) (a : Option Addr) (c : Nat) : Rep w O (.sl sz []) (.slice a 0 c)
  | sl (sz : Nat) (l : List SV) (b off c : Nat) (vals : Nat → Value) (hb : ¬ O b) (hl : 0 < l.length) (hc : l.length ≤ c) (hz : 0 < sz)
      (h1 : ∀ (i : Nat) (s : SV), l[i]? = some s → Rep w O s (vals i)) (h2 : ∀ i : Nat, i < l.length → (vals i).cells.size = sz)
      (h3 : ∀ i : Nat, i < l.length → ∀ (j : Nat) (u : Value), (vals i).cells[j]? = some u → w.cell? ⟨b, off + i * sz + j, none⟩ = some u) :
      Rep w O (.sl sz l) (.slice (some ⟨b, off, none⟩) l.length c)
  | agg (l : List SV) (vs : Array Value) (hn : vs.size = l.length) (h1 : ∀ (i : Nat) (u : Value), vs[i]? = some u → u.oneCell' = true) (h : ∀ (i : Nat) (s : SV) (u : Value), l[i]? = some s → vs[i]? = some u → Rep w O s u) : Rep w O (.agg l) (.agg vs)
  | tup (l : List SV) (vs : Array Value) (hn : vs.size = l.length) (h : ∀ (i : Nat) (s : SV) (u : Value), l[i]? = some s → vs[i]? = some u → Rep w O s u) : Rep w O (.tup l) (.tuple vs)
  | ptr (p : SV) (b off : Nat) (v : Value) (hb : ¬ O b) (h : Rep w O p v) (hz : 0 < v.cells.size)
      (h3 : ∀ (j : Nat) (u : Value), v.cells[j]? = some u → w.cell? ⟨b, off + j, none⟩ = some u) : Rep w O (.ptr p) (.pointer (some ⟨b, off, none⟩))
  | tr (Z : Nat → Prop) (s : SV) (v : Value) (hT : Tree w Z s v) (hZ : ∀ b, Z b → b < w.heap.size ∧ ¬ O b) : Rep w O (.tr Z s v) v
  | clo (f : Nat) (l : List SV) (vs : Array Value) (hn : vs.size = l.length) (h : ∀ (i : Nat) (s : SV) (u : Value), l[i]? = some s → vs[i]? = some u → Rep w O s u) : Rep w O (.clo f l) (.func (.func f) #[] vs)
theorem Tree.rep {w : World} {O Z : Nat → Prop} {s : SV} {v : Value} (h : Tree w Z s v) (hO : ∀ b, Z b → ¬ O b) : Rep w O s v := by
  induction h with
  | raw Z v => exact .raw v
  | nil Z sz a c => exact .nil sz a c
  | sl Z sz T l b c cur vals z hb hl hc hz hcm hcs hg hel hsz hcl hzn hap ih =>
    refine .sl sz l b 0 c vals (hO b hb) hl hc hz (fun i s hi => ih i s hi fun d hd => hO d (hzn i d hd).1) hsz fun i hi j u hu => ?_
    have := hcl i hi j u hu
    rw [Nat.zero_add]
    simp [World.cell?, hg, this]
  | agg Z l vs z hn h1 h hzn hap ih => exact .agg l vs hn h1 fun i s u hs hu => ih i s u hs hu fun d hd => hO d (hzn i d hd)

/-- All that is not owned is kept, and is not owned then. -/
def Kp (w : World) (O : Nat → Prop) (w' : World) (O' : Nat → Prop) : Prop := ∀ b, b < w.heap.size → ¬ O b → w'.heap[b]? = w.heap[b]? ∧ ¬ O' b

theorem Rep.kp {w w' : World} {O O' : Nat → Prop} {s : SV} {v : Value} (h : Rep w O s v) (k : Kp w O w' O') : Rep w' O' s v := by
  induction h with
  | raw v => exact .raw v
  | nil sz a c => exact .nil sz a c
  | sl sz l b off c vals hb hl hc hz h1 h2 h3 ih =>
    have hlt : b < w.heap.size := by
      have hs := h2 0 hl
      have h0 : 0 < (vals 0).cells.size := by omega
      exact World.block_lt_of_cell? w _ (h3 0 hl 0 _ (Array.getElem?_eq_getElem h0))
    obtain ⟨hk, hb'⟩ := k b hlt hb
    exact .sl sz l b off c vals hb' hl hc hz ih h2 fun i hi j u hu => (World.cell?_of_block (w := w) hk).trans (h3 i hi j u hu)
  | agg l vs hn h1 h ih => exact .agg l vs hn h1 ih
  | tup l vs hn h ih => exact .tup l vs hn ih
  | clo f l vs hn h ih => exact .clo f l vs hn ih
  | ptr p b off v hb h hz h3 ih =>
    have hlt : b < w.heap.size := World.block_lt_of_cell? w _ (h3 0 _ (Array.getElem?_eq_getElem hz))
    obtain ⟨hk, hb'⟩ := k b hlt hb
    exact .ptr p b off v hb' ih hz fun j u hu => (World.cell?_of_block (w := w) hk).trans (h3 j u hu)
  | tr Z s v hT hZ =>
    refine .tr Z s v (hT.keep fun b hb => (k b (hZ b hb).1 (hZ b hb).2).1) fun b hb => ⟨?_, (k b (hZ b hb).1 (hZ b hb).2).2⟩
    have h1 := (k b (hZ b hb).1 (hZ b hb).2).1
    rw [Array.getElem?_eq_getElem (hZ b hb).1] at h1
    exact (Array.getElem?_eq_some_iff.1 h1).1

/-- What a slot holds: a value; a pointer into a box of ours; a row of ours; a pointer into a row of ours; the rest of a row of ours; what no one asks for. -/
inductive LV where
  | sv (s : SV)
  | ptr (k j : Nat)
  | own (k : Nat)
  | eptr (k sz i j : Nat)
  | osub (k sz i : Nat)
  | av (Z : Nat → Prop) (s : SV)
  | dead
  deriving Inhabited

inductive Ent where
  | box (cells : List LV)
  | row (sz : Nat) (T : TypeId) (l : List SV)
  | map (kk : IntKind) (es : List (Int × Value))

structure St where
  t : List (Nat × LV)
  h : List (Nat × Ent)

def blk : Value → Option Nat
  | .slice (some a) _ _ => some a.block
  | .pointer (some a) => some a.block
  | .map (some r) => some r
  | _ => none

def LRep (w : World) (O : Nat → Prop) (ρ : Nat → Value) : LV → Value → Prop
  | .sv s, v => Rep w O s v
  | .ptr k j, v => ∃ b, ρ k = .pointer (some ⟨b, 0, none⟩) ∧ v = .pointer (some ⟨b, j, none⟩)
  | .own k, v => v = ρ k
  | .eptr k sz i j, v => ∃ b n c, ρ k = .slice (some ⟨b, 0, none⟩) n c ∧ v = .pointer (some ⟨b, i * sz + j, none⟩)
  | .osub k sz i, v => ∃ b n c, ρ k = .slice (some ⟨b, 0, none⟩) n c ∧ v = .slice (if c = i then some ⟨b, 0, none⟩ else some ⟨b, i * sz, none⟩) (n - i) (c - i)
  | .av Z s, v => Rep w (fun b => O b ∨ Z b) s v
  | .dead, _ => True

def ERep (w : World) (O : Nat → Prop) (ρ : Nat → Value) (k : Nat) : Ent → Prop
  | .box cells => ∃ b T cur, ρ k = .pointer (some ⟨b, 0, none⟩) ∧ w.heap[b]? = some (.cells cur T (0, 0)) ∧ cur.size = cells.length ∧
      ∀ (j : Nat) (lv : LV) (u : Value), cells[j]? = some lv → cur[j]? = some u → LRep w O ρ lv u ∧ u.oneCell' = true
  | .row sz T l => 0 < sz ∧ ∃ (xs : List Value) (vals : Nat → Value), w.ownsRow 0 T sz (ρ k) l.length xs ∧
      ∀ (i : Nat) (s : SV), l[i]? = some s → Rep w O s (vals i) ∧ (vals i).cells.size = sz ∧ ∀ (j : Nat) (u : Value), (vals i).cells[j]? = some u → xs[i * sz + j]? = some u

  | .map kk es => ∃ r en cl, ρ k = .map (some r) ∧ w.heap[r]? = some (.map en cl) ∧ en.toList.map (fun e => (e.key, e.val)) = es.map (fun p => (.int kk p.1, p.2))

structure Ctx where
  P : Program
  w0 : World
  O : Nat → Prop
  M : Nat → Prop
  inn : Nat → Option Value
  n : Nat

def Own (Γ : Ctx) (h : List (Nat × Ent)) (ρ : Nat → Value) (b : Nat) : Prop := Γ.O b ∨ ∃ k e, h.lookup k = some e ∧ blk (ρ k) = some b

structure Frm (Γ : Ctx) (w : World) : Prop where
  os : w.os = Γ.w0.os
  tape : w.tape = Γ.w0.tape
  output : w.output = Γ.w0.output
  size : Γ.w0.heap.size ≤ w.heap.size
  block : ∀ b, b < Γ.w0.heap.size → ¬ Γ.M b → w.heap[b]? = Γ.w0.heap[b]?

structure Iv (Γ : Ctx) (σ : St) (ρ : Nat → Value) (a : Act) (w : World) : Prop where
  dfr : a.defers = []
  size : a.tmps.size = Γ.n
  frm : Frm Γ w
  tmp : ∀ t lv, σ.t.lookup t = some lv → LRep w (Own Γ σ.h ρ) ρ lv (a.tmps.getD t undef)
  ent : ∀ k e, σ.h.lookup k = some e → ERep w (Own Γ σ.h ρ) ρ k e
  new : ∀ k e b, σ.h.lookup k = some e → blk (ρ k) = some b → (Γ.w0.heap.size ≤ b ∨ Γ.M b) ∧ b < w.heap.size
  sep : ∀ k k' e e' b, σ.h.lookup k = some e → σ.h.lookup k' = some e' → blk (ρ k) = some b → blk (ρ k') = some b → k = k'
  out : ∀ b, Γ.O b → b < Γ.w0.heap.size ∧ ¬ Γ.M b
  inn : ∀ k v, Γ.inn k = some v → ρ k = v

def Inv (Γ : Ctx) (σ : St) (a : Act) (w : World) : Prop := ∃ ρ, Iv Γ σ ρ a w

def St.ev (σ : St) : Operand → LV
  | .tmp t => (σ.t.lookup t).getD .dead
  | .const v => .sv (.raw v)
  | .func f => .sv (.raw (.func (.func f) #[] #[]))
  | .global _ => .dead

/-- A list of pairs with one pair set. -/
def ins {α : Type} (d : Nat) (v : α) : List (Nat × α) → List (Nat × α)
  | [] => [(d, v)]
  | (d', v') :: t => if d' = d then (d, v) :: t else (d', v') :: ins d v t

theorem lookup_ins {α : Type} (d : Nat) (v : α) (t : Nat) : ∀ l : List (Nat × α), (ins d v l).lookup t = if t = d then some v else l.lookup t
  | [] => by
    simp only [ins, List.lookup_cons]
    by_cases h : t = d
    · subst h; simp
    · have : (t == d) = false := by simpa using h
      simp [this, h]
  | (d', v') :: l => by
    have ih := lookup_ins d v t l
    simp only [ins]
    by_cases hd : d' = d
    · subst hd
      simp only [if_true, List.lookup_cons]
      by_cases h : t = d'
      · subst h; simp
      · have : (t == d') = false := by simpa using h
        simp [this, h]
    · simp only [hd, if_false, List.lookup_cons, ih]
      by_cases h : t = d'
      · subst h; simp [hd]
      · have : (t == d') = false := by simpa using h
        simp [this]

def St.put (σ : St) (d : Option Nat) (lv : LV) : St :=
  match d with
  | none => σ
  | some d => { σ with t := (d, lv) :: σ.t }

theorem LRep.kp {w w' : World} {O O' : Nat → Prop} {ρ : Nat → Value} {lv : LV} {v : Value} (h : LRep w O ρ lv v) (k : Kp w O w' O') : LRep w' O' ρ lv v := by
  cases lv with
  | sv s => exact Rep.kp h k
  | av Z s =>
    refine Rep.kp (O := fun b => O b ∨ Z b) (O' := fun b => O' b ∨ Z b) h fun b hb hno => ?_
    obtain ⟨h1, h2⟩ := k b hb fun h => hno (.inl h)
    exact ⟨h1, fun h => h.elim h2 fun h => hno (.inr h)⟩
  | _ => exact h

theorem Kp.refl (w : World) (O : Nat → Prop) : Kp w O w O := fun _ _ h => ⟨rfl, h⟩

theorem ekp {w w' : World} (h : Ext w w') (O : Nat → Prop) : Kp w O w' O := fun b hb hn => ⟨h.block b hb, hn⟩

theorem blk_lt {Γ : Ctx} {σ : St} {ρ : Nat → Value} {a : Act} {w : World} (h : Iv Γ σ ρ a w) {b : Nat} (hb : Own Γ σ.h ρ b) : b < w.heap.size := by
  rcases hb with hb | ⟨k, e, hk, hr⟩
  · exact Nat.lt_of_lt_of_le (h.out b hb).1 h.frm.size
  · exact (h.new k e b hk hr).2

theorem ERep.ext {w w' : World} {O : Nat → Prop} {ρ : Nat → Value} {k : Nat} {e : Ent} (h : ERep w O ρ k e) (hx : Ext w w') : ERep w' O ρ k e := by
  have kp := ekp hx O
  cases e with
  | box cells =>
    obtain ⟨b, T, cur, h1, h2, h3, h4⟩ := h
    refine ⟨b, T, cur, h1, ?_, h3, fun j lv u hj hu => ⟨(h4 j lv u hj hu).1.kp kp, (h4 j lv u hj hu).2⟩⟩
    rw [hx.block b (Array.getElem?_eq_some_iff.1 h2).1]; exact h2
  | row sz T l =>
    obtain ⟨hz, xs, vals, h1, h2⟩ := h
    refine ⟨hz, xs, vals, ?_, fun i s hi => ⟨(h2 i s hi).1.kp kp, (h2 i s hi).2⟩⟩
    refine ⟨h1.1, ?_⟩
    rcases h1.2 with hn | ⟨g, cap, cur, hv, hb, hg, rest⟩
    · exact .inl hn
    · exact .inr ⟨g, cap, cur, hv, hb, by rw [hx.block g (Array.getElem?_eq_some_iff.1 hg).1]; exact hg, rest⟩
  | map kk es =>
    obtain ⟨r, en, cl, h1, h2, h3⟩ := h
    exact ⟨r, en, cl, h1, by rw [hx.block r (Array.getElem?_eq_some_iff.1 h2).1]; exact h2, h3⟩

theorem Frm.ext {Γ : Ctx} {w w' : World} (h : Frm Γ w) (hx : Ext w w') : Frm Γ w' :=
  ⟨hx.os.trans h.os, hx.tape.trans h.tape, hx.output.trans h.output, Nat.le_trans h.size hx.size, fun b hb hm => (hx.block b (Nat.lt_of_lt_of_le hb h.size)).trans (h.block b hb hm)⟩

theorem Iv.ext {Γ : Ctx} {σ : St} {ρ : Nat → Value} {a : Act} {w w' : World} (h : Iv Γ σ ρ a w) (hx : Ext w w') : Iv Γ σ ρ a w' :=
  ⟨h.dfr, h.size, h.frm.ext hx, fun t lv ht => (h.tmp t lv ht).kp (ekp hx _), fun k e hk => (h.ent k e hk).ext hx,
    fun k e b hk hb => ⟨(h.new k e b hk hb).1, Nat.lt_of_lt_of_le (h.new k e b hk hb).2 hx.size⟩, h.sep, h.out, h.inn⟩

theorem Iv.ev {Γ : Ctx} {σ : St} {ρ : Nat → Value} {a : Act} {w : World} (h : Iv Γ σ ρ a w) (x : Operand) : LRep w (Own Γ σ.h ρ) ρ (σ.ev x) (a.eval x) := by
  cases x with
  | tmp t =>
    simp only [St.ev, Act.eval]
    cases hl : σ.t.lookup t with
    | none => exact trivial
    | some lv => exact h.tmp t lv hl
  | const v => exact Rep.raw v
  | func f => exact Rep.raw _
  | global g => exact trivial

theorem Iv.put {Γ : Ctx} {σ : St} {ρ : Nat → Value} {a : Act} {w : World} (h : Iv Γ σ ρ a w) {d : Option Nat} {lv : LV} {v : Value} (hd : ∀ k, d = some k → k < Γ.n) (hv : LRep w (Own Γ σ.h ρ) ρ lv v) : Iv Γ (σ.put d lv) ρ (a.put d v) w := by
  cases d with
  | none => exact h
  | some d =>
    have hd' := hd d rfl
    refine ⟨h.dfr, by simpa [Act.put] using h.size, h.frm, ?_, h.ent, h.new, h.sep, h.out, h.inn⟩
    intro t lv' ht
    simp only [St.put, List.lookup_cons] at ht
    simp only [Act.put]
    by_cases htd : t = d
    · subst htd
      simp only [BEq.rfl, Option.some.injEq] at ht
      subst ht
      have hs : t < a.tmps.size := by rw [h.size]; exact hd'
      rw [Array.getD_eq_getD_getElem?, Array.getElem?_setIfInBounds_self_of_lt hs]; exact hv
    · have h1 : (t == d) = false := by simpa using htd
      simp only [h1] at ht
      have := h.tmp t lv' ht
      rw [Array.getD_eq_getD_getElem?, Array.getElem?_setIfInBounds_ne (Ne.symm htd), ← Array.getD_eq_getD_getElem?]
      exact this
end Go.Abs
