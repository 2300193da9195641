/- What operations on memory do to plain values: a load, a box, a row. No condition. -/
import Derived.Test.YtlokejcoikddgaaAbsSound
namespace Go.Abs
open Go Go.RowKit Go.Eager

def LV.mentions (k : Nat) : LV → Bool
  | .ptr k' _ => k' == k
  | .own k' => k' == k
  | .eptr k' _ _ _ => k' == k
  | .osub k' _ _ => k' == k
  | _ => false
def Ent.mentions (k : Nat) : Ent → Bool
  | .box cells => cells.any (LV.mentions k)
  | _ => false
def St.free (σ : St) (k : Nat) : Bool := σ.t.all (fun p => !p.2.mentions k) && σ.h.all (fun p => !p.2.mentions k) && (σ.h.lookup k).isNone
def upd (ρ : Nat → Value) (k : Nat) (v : Value) : Nat → Value := fun k' => if k' = k then v else ρ k'
theorem upd_self (ρ : Nat → Value) (k : Nat) : upd ρ k (ρ k) = ρ := by funext k'; unfold upd; split <;> simp_all
theorem upd_at (ρ : Nat → Value) (k : Nat) (v : Value) : upd ρ k v k = v := by simp [upd]
theorem upd_ne (ρ : Nat → Value) {k k' : Nat} (v : Value) (h : k' ≠ k) : upd ρ k v k' = ρ k' := by simp [upd, h]

theorem LRep.upd {w : World} {O : Nat → Prop} {ρ : Nat → Value} {lv : LV} {v v' : Value} {k : Nat} (h : LRep w O ρ lv v) (hm : lv.mentions k = false) : LRep w O (upd ρ k v') lv v := by
  cases lv with
  | sv s => exact h
  | av Z s => exact h
  | dead => exact h
  | ptr k' j => simp only [LV.mentions, beq_eq_false_iff_ne, ne_eq] at hm; have e := upd_ne ρ v' hm; simpa only [LRep, e] using h
  | own k' => simp only [LV.mentions, beq_eq_false_iff_ne, ne_eq] at hm; have e := upd_ne ρ v' hm; simpa only [LRep, e] using h
  | eptr k' n i j => simp only [LV.mentions, beq_eq_false_iff_ne, ne_eq] at hm; have e := upd_ne ρ v' hm; simpa only [LRep, e] using h
  | osub k' n i => simp only [LV.mentions, beq_eq_false_iff_ne, ne_eq] at hm; have e := upd_ne ρ v' hm; simpa only [LRep, e] using h

theorem ERep.step {w w' : World} {O O' : Nat → Prop} {ρ ρ' : Nat → Value} {k : Nat} {e : Ent} (h : ERep w O ρ k e) (kp : Kp w O w' O') (hb : ∀ b, blk (ρ k) = some b → w'.heap[b]? = w.heap[b]?) (hρ : ρ' k = ρ k)
    (hl : ∀ cells, e = .box cells → ∀ (j : Nat) (lv : LV) (v : Value), cells[j]? = some lv → LRep w' O' ρ lv v → LRep w' O' ρ' lv v) : ERep w' O' ρ' k e := by
  cases e with
  | box cells =>
    obtain ⟨b, T, cur, h1, h2, h3, h4⟩ := h
    refine ⟨b, T, cur, by rw [hρ]; exact h1, ?_, h3, fun j lv u hj hu => ⟨hl cells rfl j lv u hj ((h4 j lv u hj hu).1.kp kp), (h4 j lv u hj hu).2⟩⟩
    rw [hb b (by rw [h1]; rfl)]; exact h2
  | row sz T l =>
    obtain ⟨hz, xs, vals, h1, h2⟩ := h
    refine ⟨hz, xs, vals, ?_, fun i s hi => ⟨(h2 i s hi).1.kp kp, (h2 i s hi).2⟩⟩
    rw [hρ]
    refine ⟨h1.1, ?_⟩
    rcases h1.2 with hn | ⟨g, cap, cur, hv, hb', hg, rest⟩
    · exact .inl hn
    · exact .inr ⟨g, cap, cur, hv, hb', by rw [hb g (by rw [hv]; rfl)]; exact hg, rest⟩
  | map kk es =>
    obtain ⟨r, en, cl, h1, h2, h3⟩ := h
    exact ⟨r, en, cl, by rw [hρ]; exact h1, by rw [hb r (by rw [h1]; rfl)]; exact h2, h3⟩

/-- One entry of the heap is set anew (or for the first time). -/
theorem Iv.heap {Γ : Ctx} {σ : St} {ρ : Nat → Value} {a : Act} {w w' : World} (I : Iv Γ σ ρ a w) {t' : List (Nat × LV)} {k : Nat} {e : Ent} {v' : Value}
    (ht : ∀ t lv, t'.lookup t = some lv → σ.t.lookup t = some lv ∨ lv = .dead)
    (hr : v' = ρ k ∨ ((∀ t lv, t'.lookup t = some lv → lv.mentions k = false) ∧ ∀ k1 e1, k1 ≠ k → σ.h.lookup k1 = some e1 → e1.mentions k = false))
    (ho : w'.os = w.os ∧ w'.tape = w.tape ∧ w'.output = w.output ∧ w.heap.size ≤ w'.heap.size)
    (hw : ∀ b, b < w.heap.size → (∀ e0, σ.h.lookup k = some e0 → blk (ρ k) ≠ some b) → w'.heap[b]? = w.heap[b]?)
    (hb : ∀ b, blk v' = some b → b < w'.heap.size ∧ (w.heap.size ≤ b ∨ ∃ e0, σ.h.lookup k = some e0 ∧ blk (ρ k) = some b))
    (hi : ∀ v, Γ.inn k = some v → v' = v)
    (he : ERep w' (Own Γ (ins k e σ.h) (upd ρ k v')) (upd ρ k v') k e) : Iv Γ ⟨t', ins k e σ.h⟩ (upd ρ k v') a w' := by
  have kp : Kp w (Own Γ σ.h ρ) w' (Own Γ (ins k e σ.h) (upd ρ k v')) := by
    intro b hlt hno
    refine ⟨hw b hlt fun e0 h0 hbk => hno (.inr ⟨k, e0, h0, hbk⟩), ?_⟩
    rintro (hO | ⟨k1, e1, hk1, hb1⟩)
    · exact hno (.inl hO)
    · rw [lookup_ins] at hk1
      by_cases hkk : k1 = k
      · subst hkk
        rw [upd_at] at hb1
        rcases (hb b hb1).2 with h | ⟨e0, h0, hbk⟩
        · omega
        · exact hno (.inr ⟨k1, e0, h0, hbk⟩)
      · rw [if_neg hkk] at hk1
        rw [upd_ne _ _ hkk] at hb1
        exact hno (.inr ⟨k1, e1, hk1, hb1⟩)
  refine ⟨I.dfr, I.size, ?_, ?_, ?_, ?_, ?_, I.out, ?_⟩
  · refine ⟨ho.1.trans I.frm.os, ho.2.1.trans I.frm.tape, ho.2.2.1.trans I.frm.output, Nat.le_trans I.frm.size ho.2.2.2, fun b hlt hm => ?_⟩
    rw [hw b (Nat.lt_of_lt_of_le hlt I.frm.size) fun e0 h0 hbk => ?_]
    · exact I.frm.block b hlt hm
    · rcases (I.new k e0 b h0 hbk).1 with h | h
      · omega
      · exact hm h
  · intro t lv htl
    rcases ht t lv htl with h | rfl
    · have h1 := (I.tmp t lv h).kp kp
      rcases hr with rfl | ⟨hr, _⟩
      · rw [upd_self] at h1 ⊢; exact h1
      · exact h1.upd (hr t lv htl)
    · exact trivial
  · intro k1 e1 hk1
    rw [lookup_ins] at hk1
    by_cases hkk : k1 = k
    · subst hkk
      simp only [if_true, Option.some.injEq] at hk1
      subst hk1
      exact he
    · rw [if_neg hkk] at hk1
      refine (I.ent k1 e1 hk1).step kp (fun b hbk => hw b (I.new k1 e1 b hk1 hbk).2 fun e0 h0 hb0 => hkk (I.sep k1 k e1 e0 b hk1 h0 hbk hb0)) (upd_ne _ _ hkk) ?_
      intro cells hc j lv v hj hl
      rcases hr with rfl | ⟨_, hr⟩
      · rw [upd_self] at hl ⊢; exact hl
      · refine hl.upd ?_
        have := hr k1 e1 hkk hk1
        subst hc
        simp only [Ent.mentions, List.any_eq_false] at this
        have h2 := this lv (List.mem_of_getElem? hj)
        simpa using h2
  · intro k1 e1 b hk1 hbk
    rw [lookup_ins] at hk1
    by_cases hkk : k1 = k
    · subst hkk
      rw [upd_at] at hbk
      refine ⟨?_, (hb b hbk).1⟩
      rcases (hb b hbk).2 with h | ⟨e0, h0, hb0⟩
      · exact .inl (Nat.le_trans I.frm.size h)
      · exact (I.new k1 e0 b h0 hb0).1
    · rw [if_neg hkk] at hk1
      rw [upd_ne _ _ hkk] at hbk
      exact ⟨(I.new k1 e1 b hk1 hbk).1, Nat.lt_of_lt_of_le (I.new k1 e1 b hk1 hbk).2 ho.2.2.2⟩
  · intro k1 k2 e1 e2 b h1 h2 hb1 hb2
    rw [lookup_ins] at h1 h2
    by_cases hk1 : k1 = k <;> by_cases hk2 : k2 = k
    · rw [hk1, hk2]
    · exfalso
      subst hk1
      rw [if_neg hk2] at h2
      rw [upd_at] at hb1
      rw [upd_ne _ _ hk2] at hb2
      rcases (hb b hb1).2 with h | ⟨e0, h0, hb0⟩
      · have := (I.new k2 e2 b h2 hb2).2; omega
      · exact hk2 (I.sep k2 k1 e2 e0 b h2 h0 hb2 hb0)
    · exfalso
      subst hk2
      rw [if_neg hk1] at h1
      rw [upd_at] at hb2
      rw [upd_ne _ _ hk1] at hb1
      rcases (hb b hb2).2 with h | ⟨e0, h0, hb0⟩
      · have := (I.new k1 e1 b h1 hb1).2; omega
      · exact hk1 (I.sep k1 k2 e1 e0 b h1 h0 hb1 hb0)
    · rw [if_neg hk1] at h1
      rw [if_neg hk2] at h2
      rw [upd_ne _ _ hk1] at hb1
      rw [upd_ne _ _ hk2] at hb2
      exact I.sep k1 k2 e1 e2 b h1 h2 hb1 hb2
  · intro k1 v hv
    by_cases hkk : k1 = k
    · subst hkk; rw [upd_at]; exact hi v hv
    · rw [upd_ne _ _ hkk]; exact I.inn k1 v hv

theorem mem_of_lookup {α : Type} {k : Nat} {e : α} : ∀ {l : List (Nat × α)}, l.lookup k = some e → (k, e) ∈ l
  | [], h => by simp at h
  | (k', e') :: l, h => by
    rw [List.lookup_cons] at h
    by_cases hk : k = k'
    · subst hk; simp at h; subst h; simp
    · have : (k == k') = false := by simpa using hk
      simp only [this] at h
      exact List.mem_cons_of_mem _ (mem_of_lookup h)

theorem free_spec {σ : St} {k : Nat} (h : σ.free k = true) : (∀ t lv, σ.t.lookup t = some lv → lv.mentions k = false) ∧ (∀ k1 e1, σ.h.lookup k1 = some e1 → e1.mentions k = false) ∧ σ.h.lookup k = none := by
  simp only [St.free, Bool.and_eq_true, List.all_eq_true, Bool.not_eq_true', Option.isNone_iff_eq_none] at h
  exact ⟨fun t lv ht => h.1.1 _ (mem_of_lookup ht), fun k1 e1 hk => h.1.2 _ (mem_of_lookup hk), h.2⟩

/-- A new block, ours from now on. -/
theorem Iv.fresh {Γ : Ctx} {σ : St} {ρ : Nat → Value} {a : Act} {w : World} (I : Iv Γ σ ρ a w) {k : Nat} {e : Ent} {v' : Value} {o : Obj} (hf : σ.free k = true) (hi : Γ.inn k = none) (hv : blk v' = some w.heap.size)
    (he : ERep (w.alloc o) (Own Γ (ins k e σ.h) (upd ρ k v')) (upd ρ k v') k e) : Iv Γ ⟨σ.t, ins k e σ.h⟩ (upd ρ k v') a (w.alloc o) := by
  obtain ⟨h1, h2, h3⟩ := free_spec hf
  refine I.heap (fun t lv h => .inl h) (.inr ⟨h1, fun k1 e1 _ => h2 k1 e1⟩) ⟨rfl, rfl, rfl, by simp⟩ (fun b hb _ => Below.heap_alloc w o b hb) ?_ (by rw [hi]; intro v h; cases h) he
  intro b hb
  rw [hv] at hb
  cases hb
  exact ⟨by simp, .inl (Nat.le_refl _)⟩

theorem alloc_ext (w : World) (o : Obj) : Ext w (w.alloc o) := (Below.refl _ w).alloc (Nat.le_refl _) o

/-- What is kept when a block is added, and what is owned grows by that block alone. -/
theorem kp_fresh {Γ : Ctx} {σ : St} {ρ : Nat → Value} {w : World} {k : Nat} {e : Ent} {v' : Value} (o : Obj) (hv : blk v' = some w.heap.size) : Kp w (Own Γ σ.h ρ) (w.alloc o) (Own Γ (ins k e σ.h) (upd ρ k v')) := by
  intro b hlt hno
  refine ⟨Below.heap_alloc w o b hlt, ?_⟩
  rintro (hO | ⟨k1, e1, hk1, hb1⟩)
  · exact hno (.inl hO)
  · rw [lookup_ins] at hk1
    by_cases hkk : k1 = k
    · subst hkk; rw [upd_at, hv] at hb1; cases hb1; omega
    · rw [if_neg hkk] at hk1
      rw [upd_ne _ _ hkk] at hb1
      exact hno (.inr ⟨k1, e1, hk1, hb1⟩)
end Go.Abs
