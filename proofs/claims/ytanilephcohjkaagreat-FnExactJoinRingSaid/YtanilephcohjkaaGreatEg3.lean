/- The engine, part 3: a layer of plain values over the model. No condition. -/
import Derived.Test.YtanilephcohjkaaGreatEg2
import Derived.Test.YtanilephcohjkaaGreatEg1
/- Functions that are lent boxes and rows of ours, and write them; functions that hold boxes of ours. No condition. -/
namespace Go.Abs
open Go Go.RowKit Go.Eager
set_option linter.unusedVariables false
set_option linter.unusedSimpArgs false
def OwnO (O : Nat → Prop) (h : List (Nat × Ent)) (ρ : Nat → Value) (b : Nat) : Prop := O b ∨ ∃ k e, h.lookup k = some e ∧ blk (ρ k) = some b
def Bk (h : List (Nat × Ent)) (ρ : Nat → Value) (b : Nat) : Prop := ∃ k e, h.lookup k = some e ∧ blk (ρ k) = some b
structure Ents (w : World) (O : Nat → Prop) (h : List (Nat × Ent)) (ρ : Nat → Value) : Prop where
  ent : ∀ k e, h.lookup k = some e → ERep w (OwnO O h ρ) ρ k e
  lt : ∀ k e b, h.lookup k = some e → blk (ρ k) = some b → b < w.heap.size
  sep : ∀ k k' e e' b, h.lookup k = some e → h.lookup k' = some e' → blk (ρ k) = some b → blk (ρ k') = some b → k = k'
  out : ∀ k e b, h.lookup k = some e → blk (ρ k) = some b → ¬ O b
structure BFrm (h : List (Nat × Ent)) (ρ : Nat → Value) (w w' : World) : Prop where
  os : w'.os = w.os
  tape : w'.tape = w.tape
  output : w'.output = w.output
  size : w.heap.size ≤ w'.heap.size
  block : ∀ b, b < w.heap.size → ¬ Bk h ρ b → w'.heap[b]? = w.heap[b]?
def PFnB (P : Program) (f : FuncId) (args : List LV) (h : List (Nat × Ent)) (fx : List Nat) (R : LV → List (Nat × Ent) → Prop) : Prop :=
  ∀ (w : World) (O : Nat → Prop) (ρ : Nat → Value) (vs : Array Value), (∀ b, O b → b < w.heap.size) → Ents w O h ρ → vs.size = args.length →
    (∀ (i : Nat) (lv : LV) (u : Value), args[i]? = some lv → vs[i]? = some u → LRep w (OwnO O h ρ) ρ lv u) →
    Calls P f vs w fun e w' => ∃ (v : Value) (r : LV) (h' : List (Nat × Ent)) (ρ' : Nat → Value), e = .returned v ∧ R r h' ∧ BFrm h ρ w w' ∧ Ents w' O h' ρ' ∧ (∀ k, fx.contains k = true → ρ' k = ρ k) ∧
      (∀ k e b, h'.lookup k = some e → blk (ρ' k) = some b → w.heap.size ≤ b ∨ Bk h ρ b) ∧ LRep w' (OwnO O h' ρ') ρ' r v
theorem PFnB.mono {P : Program} {f : FuncId} {args : List LV} {h : List (Nat × Ent)} {fx : List Nat} {R R' : LV → List (Nat × Ent) → Prop} (hc : PFnB P f args h fx R) (hr : ∀ r h', R r h' → R' r h') : PFnB P f args h fx R' := by
  intro w O ρ vs h1 h2 h3 h4
  refine (hc w O ρ vs h1 h2 h3 h4).mono ?_
  rintro e w' ⟨v, r, h', ρ', q1, q2, q3⟩
  exact ⟨v, r, h', ρ', q1, hr _ _ q2, q3⟩
abbrev ctxB (P : Program) (w0 : World) (O M : Nat → Prop) (ρ : Nat → Value) (fx : List Nat) (n : Nat) : Ctx :=
  { P := P, w0 := w0, O := O, M := M, inn := fun k => if k < 1000 then none else if fx.contains k then some (ρ k) else none, n := n }
section
variable {Γ : Ctx} {σ : St} {ρ : Nat → Value} {a : Act} {w : World}
end
def LV.keys : LV → List Nat
  | .ptr k _ => [k]
  | .own k => [k]
  | .eptr k _ _ _ => [k]
  | .osub k _ _ => [k]
  | .cfn _ ks => ks
  | _ => []
def kn (κ : List (Nat × Nat)) (lv : LV) : Bool := lv.keys.all fun j => (κ.lookup j).isSome
theorem LRep.swap {w : World} {O : Nat → Prop} {ρ ρ2 : Nat → Value} {lv : LV} {v : Value} (h : LRep w O ρ lv v) (he : ∀ k, lv.mentions k = true → ρ2 k = ρ k) : LRep w O ρ2 lv v := by
  cases lv with
  | sv s => exact h
  | av Z s => exact h
  | dead => exact h
  | ptr k' j => have e := he k' (by simp [LV.mentions]); simpa only [LRep, e] using h
  | own k' => have e := he k' (by simp [LV.mentions]); simpa only [LRep, e] using h
  | eptr k' n i j => have e := he k' (by simp [LV.mentions]); simpa only [LRep, e] using h
  | osub k' n i => have e := he k' (by simp [LV.mentions]); simpa only [LRep, e] using h
  | cfn f ks =>
    show v = .func (.func f) #[] (ks.map ρ2).toArray
    rw [List.map_congr_left fun x hx => he x (by simpa [LV.mentions] using hx)]
    exact h
theorem lookup_mem {α : Type} {k : Nat} {v : α} : ∀ {l : List (Nat × α)}, l.lookup k = some v → (k, v) ∈ l
  | [], h => by simp at h
  | (a, x) :: t, h => by
    rw [List.lookup_cons] at h
    cases hk : (k == a) with
    | true =>
      have : k = a := by simpa using hk
      subst this
      simp only [hk, Option.some.injEq] at h
      subst h; exact List.mem_cons_self ..
    | false => simp only [hk] at h; exact List.mem_cons_of_mem _ (lookup_mem h)
section
variable {Γ : Ctx} {σ : St} {ρ : Nat → Value} {a : Act} {w : World}
end
end Go.Abs

/- Rows whose elements may be rows of ours; names changed; boxes and rows lent to a function that is called. No condition. -/
namespace Go.Abs
open Go Go.RowKit Go.Eager
set_option linter.unusedVariables false
set_option linter.unusedSimpArgs false
section
variable {Γ : Ctx} {σ : St} {ρ : Nat → Value} {a : Act} {w : World}
theorem Iv.conv (I : Iv Γ σ ρ a w) {k : Nat} {e e' : Ent} (hk : σ.h.lookup k = some e) (hE : ∀ O, ERep w O ρ k e → ERep w O ρ k e') : Iv Γ ⟨σ.t, ins k e' σ.h⟩ ρ a w := by
  have hO : ∀ b, Own Γ (ins k e' σ.h) ρ b → Own Γ σ.h ρ b := by
    rintro b (h | ⟨k1, e1, h1, hb⟩)
    · exact .inl h
    · rw [lookup_ins] at h1
      by_cases hkk : k1 = k
      · subst hkk; exact .inr ⟨k1, e, hk, hb⟩
      · rw [if_neg hkk] at h1; exact .inr ⟨k1, e1, h1, hb⟩
  have kp : Kp w (Own Γ σ.h ρ) w (Own Γ (ins k e' σ.h) ρ) := fun b _ hno => ⟨rfl, fun h => hno (hO b h)⟩
  have hl : ∀ k1 e1, (ins k e' σ.h).lookup k1 = some e1 → ∃ e2, σ.h.lookup k1 = some e2 := fun k1 e1 h1 => by
    rw [lookup_ins] at h1
    by_cases hkk : k1 = k
    · subst hkk; exact ⟨e, hk⟩
    · rw [if_neg hkk] at h1; exact ⟨e1, h1⟩
  refine ⟨I.dfr, I.size, I.frm, fun t lv h => (I.tmp t lv h).kp kp, fun k1 e1 h1 => ?_, fun k1 e1 b h1 hb => ?_, fun k1 k2 e1 e2 b h1 h2 hb1 hb2 => ?_, I.out, I.inn⟩
  · rw [lookup_ins] at h1
    by_cases hkk : k1 = k
    · subst hkk
      rw [if_pos rfl] at h1; cases h1
      exact (hE _ (I.ent k1 e hk)).step kp (fun _ _ => rfl) rfl fun _ _ _ _ _ _ h => h
    · rw [if_neg hkk] at h1
      exact (I.ent k1 e1 h1).step kp (fun _ _ => rfl) rfl fun _ _ _ _ _ _ h => h
  · obtain ⟨e2, h2⟩ := hl k1 e1 h1
    exact I.new k1 e2 b h2 hb
  · obtain ⟨e3, h3⟩ := hl k1 e1 h1
    obtain ⟨e4, h4⟩ := hl k2 e2 h2
    exact I.sep k1 k2 e3 e4 b h3 h4 hb1 hb2
def fzl (k n : Nat) (l : List SV) : LV → LV
  | .own k' => if k' = k then .sv (.sl n l) else .own k'
  | lv => lv
def fzE (k n : Nat) (l : List SV) : Ent → Ent
  | .box c => .box (c.map (fzl k n l))
  | .rowl T c => .rowl T (c.map (fzl k n l))
  | e => e
def fzH (k n : Nat) (l : List SV) (h : List (Nat × Ent)) : List (Nat × Ent) := (dropH k h).map fun p => (p.1, fzE k n l p.2)
theorem fzH_lookup {k n : Nat} {l : List SV} {k1 : Nat} {e : Ent} : ∀ {h : List (Nat × Ent)}, (h.map fun p => (p.1, fzE k n l p.2)).lookup k1 = some e → ∃ e0, h.lookup k1 = some e0 ∧ e = fzE k n l e0
  | [], h => by simp at h
  | (a, x) :: t, h => by
    rw [List.map_cons, List.lookup_cons] at h
    rw [List.lookup_cons]
    cases hk : (k1 == a) with
    | true => simp only [hk, Option.some.injEq] at h ⊢; exact ⟨x, rfl, h.symm⟩
    | false => simp only [hk] at h ⊢; exact fzH_lookup h
theorem Iv.freezeH (I : Iv Γ σ ρ a w) {k n T : Nat} {l : List SV} (hk : σ.h.lookup k = some (.row n T l)) : Iv Γ ⟨fzT k n l σ.t, fzH k n l σ.h⟩ ρ a w := by
  have hv := row_view I hk
  have J := I.freeze hk
  have hO : ∀ b, Own Γ (fzH k n l σ.h) ρ b → Own Γ (dropH k σ.h) ρ b := by
    rintro b (h | ⟨k1, e1, h1, hb⟩)
    · exact .inl h
    · obtain ⟨e0, h0, _⟩ := fzH_lookup h1
      exact .inr ⟨k1, e0, h0, hb⟩
  have kp : Kp w (Own Γ (dropH k σ.h) ρ) w (Own Γ (fzH k n l σ.h) ρ) := fun b _ hno => ⟨rfl, fun h => hno (hO b h)⟩
  have hL : ∀ {lv : LV} {u : Value}, LRep w (Own Γ (dropH k σ.h) ρ) ρ lv u → LRep w (Own Γ (fzH k n l σ.h) ρ) ρ (fzl k n l lv) u := by
    intro lv u h
    cases lv with
    | own k' =>
      by_cases hkk : k' = k
      · subst hkk
        have : u = ρ k' := h
        subst this
        simp only [fzl, if_true]
        exact Rep.kp hv kp
      · simp only [fzl, if_neg hkk]; exact h
    | _ => exact LRep.kp h kp
  refine ⟨J.dfr, J.size, J.frm, fun t lv h => (J.tmp t lv h).kp kp, fun k1 e1 h1 => ?_, fun k1 e1 b h1 hb => ?_, fun k1 k2 e1 e2 b h1 h2 hb1 hb2 => ?_, J.out, J.inn⟩
  · obtain ⟨e0, h0, rfl⟩ := fzH_lookup h1
    have hE := J.ent k1 e0 h0
    cases e0 with
    | box c =>
      obtain ⟨b, T, cur, q1, q2, q3, q4⟩ := hE
      refine ⟨b, T, cur, q1, q2, by simpa using q3, fun j lv u hj hu => ?_⟩
      rw [List.getElem?_map] at hj
      cases hq : c[j]? with
      | none => simp [hq] at hj
      | some lv0 => simp [hq] at hj; subst hj; exact ⟨hL (q4 j lv0 u hq hu).1, (q4 j lv0 u hq hu).2⟩
    | rowl T c =>
      obtain ⟨xs, q1, q2⟩ := hE
      refine ⟨xs, by simpa using q1, fun j lv u hj hu => ?_⟩
      rw [List.getElem?_map] at hj
      cases hq : c[j]? with
      | none => simp [hq] at hj
      | some lv0 => simp [hq] at hj; subst hj; exact ⟨hL (q2 j lv0 u hq hu).1, (q2 j lv0 u hq hu).2⟩
    | row sz T l' => exact hE.step kp (fun _ _ => rfl) rfl fun _ _ _ _ _ _ h => h
    | map kk es => exact hE.step kp (fun _ _ => rfl) rfl fun _ _ _ _ _ _ h => h
  · obtain ⟨e0, h0, rfl⟩ := fzH_lookup h1
    exact J.new k1 e0 b h0 hb
  · obtain ⟨e3, h3, _⟩ := fzH_lookup h1
    obtain ⟨e4, h4, _⟩ := fzH_lookup h2
    exact J.sep k1 k2 e3 e4 b h3 h4 hb1 hb2
def LV.mapK (f : Nat → Nat) : LV → LV
  | .ptr k j => .ptr (f k) j
  | .own k => .own (f k)
  | .eptr k n i j => .eptr (f k) n i j
  | .osub k n i => .osub (f k) n i
  | .cfn g ks => .cfn g (ks.map f)
  | lv => lv
def Ent.mapK (f : Nat → Nat) : Ent → Ent
  | .box l => .box (l.map (LV.mapK f))
  | .rowl T l => .rowl T (l.map (LV.mapK f))
  | e => e
def rn (d K0 j : Nat) : Nat := if j = d then K0 else j
def clrT (k : Nat) (t : List (Nat × LV)) : List (Nat × LV) := t.map fun p => (p.1, if p.2.mentions k then .dead else p.2)
def mapT (f : Nat → Nat) (t : List (Nat × LV)) : List (Nat × LV) := t.map fun p => (p.1, p.2.mapK f)
def mapH (f : Nat → Nat) (h : List (Nat × Ent)) : List (Nat × Ent) := h.map fun p => (f p.1, p.2.mapK f)
theorem clrT_lookup {k s : Nat} {lv : LV} : ∀ {t : List (Nat × LV)}, (clrT k t).lookup s = some lv → (t.lookup s = some lv ∧ lv.mentions k = false) ∨ lv = .dead
  | [], h => by simp [clrT] at h
  | (a, x) :: t, h => by
    simp only [clrT, List.map_cons, List.lookup_cons] at h ⊢
    cases hk : (s == a) with
    | true =>
      simp only [hk, Option.some.injEq] at h ⊢
      split at h
      · exact .inr h.symm
      · rename_i hm; subst h; exact .inl ⟨rfl, by simpa using hm⟩
    | false => simp only [hk] at h ⊢; exact clrT_lookup h
theorem mapT_lookup {f : Nat → Nat} {s : Nat} {lv : LV} : ∀ {t : List (Nat × LV)}, (mapT f t).lookup s = some lv → ∃ lv0, t.lookup s = some lv0 ∧ lv = lv0.mapK f
  | [], h => by simp [mapT] at h
  | (a, x) :: t, h => by
    simp only [mapT, List.map_cons, List.lookup_cons] at h ⊢
    cases hk : (s == a) with
    | true => simp only [hk, Option.some.injEq] at h ⊢; exact ⟨x, rfl, h.symm⟩
    | false => simp only [hk] at h ⊢; exact mapT_lookup h
theorem mapH_lookup {d K0 s : Nat} {e : Ent} : ∀ {h : List (Nat × Ent)}, (∀ p ∈ h, p.1 ≠ K0) → (mapH (rn d K0) h).lookup s = some e → ∃ j e0, h.lookup j = some e0 ∧ rn d K0 j = s ∧ e = e0.mapK (rn d K0)
  | [], _, h => by simp [mapH] at h
  | (a, x) :: t, hs, h => by
    simp only [mapH, List.map_cons, List.lookup_cons] at h
    cases hk : (s == rn d K0 a) with
    | true =>
      have : s = rn d K0 a := by simpa using hk
      simp only [hk, Option.some.injEq] at h
      exact ⟨a, x, by simp, this.symm, h.symm⟩
    | false =>
      simp only [hk] at h
      obtain ⟨j, e0, h1, h2, h3⟩ := mapH_lookup (h := t) (fun p hp => hs p (List.mem_cons_of_mem _ hp)) h
      refine ⟨j, e0, ?_, h2, h3⟩
      rw [List.lookup_cons]
      have : (j == a) = false := by
        cases hj : (j == a) with
        | false => rfl
        | true =>
          have : j = a := by simpa using hj
          subst this
          rw [h2] at hk; simp at hk
      simp only [this]; exact h1
theorem mapK_rep {O : Nat → Prop} {ρ : Nat → Value} {f : Nat → Nat} {lv : LV} {v : Value} : LRep w O (fun j => ρ (f j)) lv v ↔ LRep w O ρ (lv.mapK f) v := by
  cases lv with
  | cfn g ks => show (v = .func (.func g) #[] (ks.map _).toArray) ↔ (v = .func (.func g) #[] ((ks.map f).map ρ).toArray); rw [List.map_map]; rfl
  | _ => exact Iff.rfl
theorem mapK_erep {O : Nat → Prop} {ρ : Nat → Value} {f : Nat → Nat} {j : Nat} {e : Ent} (h : ERep w O (fun j => ρ (f j)) j e) : ERep w O ρ (f j) (e.mapK f) := by
  have hd : ∀ (l : List LV) (i : Nat) (lv : LV), (l.map (LV.mapK f))[i]? = some lv → ∃ lv0, l[i]? = some lv0 ∧ lv = lv0.mapK f := fun l i lv h => by
    rw [List.getElem?_map] at h
    cases hq : l[i]? with
    | none => simp [hq] at h
    | some q => simp [hq] at h; exact ⟨q, rfl, h.symm⟩
  cases e with
  | box l =>
    obtain ⟨b, T, cur, h1, h2, h3, h4⟩ := h
    refine ⟨b, T, cur, h1, h2, by simpa using h3, fun i lv u hi hu => ?_⟩
    obtain ⟨lv0, h5, rfl⟩ := hd l i lv hi
    exact ⟨mapK_rep.1 (h4 i lv0 u h5 hu).1, (h4 i lv0 u h5 hu).2⟩
  | rowl T l =>
    obtain ⟨xs, h1, h2⟩ := h
    refine ⟨xs, by simpa using h1, fun i lv u hi hu => ?_⟩
    obtain ⟨lv0, h5, rfl⟩ := hd l i lv hi
    exact ⟨mapK_rep.1 (h2 i lv0 u h5 hu).1, (h2 i lv0 u h5 hu).2⟩
  | row n T l => exact h
  | map kk es => exact h
theorem Iv.renm (I : Iv Γ σ ρ a w) {K0 d : Nat} (hm : (dropH K0 σ.h).all (fun p => !p.2.mentions K0) = true) (hi : Γ.inn K0 = none) (hd : Γ.inn d = none) : Iv Γ ⟨mapT (rn d K0) (clrT K0 σ.t), mapH (rn d K0) (dropH K0 σ.h)⟩ (upd ρ K0 (ρ d)) a w := by
  let f := rn d K0
  let ρ2 := upd ρ K0 (ρ d)
  have hρ : ∀ j, j ≠ K0 → ρ2 (f j) = ρ j := by
    intro j hj
    by_cases hjd : j = d
    · subst hjd; simp only [f, rn, if_true, ρ2]; exact upd_at _ _ _
    · simp only [f, rn, if_neg hjd, ρ2]; exact upd_ne _ _ hj
  have hne : ∀ p ∈ dropH K0 σ.h, p.1 ≠ K0 := fun p hp => by simp [dropH] at hp; exact hp.2
  have hl : ∀ k e, (mapH f (dropH K0 σ.h)).lookup k = some e → ∃ j e0, σ.h.lookup j = some e0 ∧ j ≠ K0 ∧ f j = k ∧ e = e0.mapK f ∧ ρ2 k = ρ j ∧ e0.mentions K0 = false := by
    intro k e h
    obtain ⟨j, e0, h1, h2, h3⟩ := mapH_lookup hne h
    obtain ⟨h4, h5⟩ := dropH_lookup h1
    refine ⟨j, e0, h4, h5, h2, h3, by rw [← h2]; exact hρ j h5, ?_⟩
    have := List.all_eq_true.1 hm (j, e0) (lookup_mem h1)
    simpa using this
  have kp : Kp w (Own Γ σ.h ρ) w (Own Γ (mapH f (dropH K0 σ.h)) ρ2) := by
    intro b _ hno
    refine ⟨rfl, ?_⟩
    rintro (hO | ⟨k, e, hk, hb⟩)
    · exact hno (.inl hO)
    · obtain ⟨j, e0, h1, h2, h3, h4, h5, _⟩ := hl k e hk
      rw [h5] at hb
      exact hno (.inr ⟨j, e0, h1, hb⟩)
  have hfinj : ∀ j j', j ≠ K0 → j' ≠ K0 → f j = f j' → j = j' := by
    intro j j' h1 h2 h3
    simp only [f, rn] at h3
    split at h3 <;> split at h3 <;> first | (subst_vars; rfl) | (exact absurd h3.symm h2) | (exact absurd h3 h1) | exact h3
  have hLV : ∀ {lv : LV} {u : Value}, LRep w (Own Γ σ.h ρ) ρ lv u → lv.mentions K0 = false → LRep w (Own Γ (mapH f (dropH K0 σ.h)) ρ2) ρ2 (lv.mapK f) u := by
    intro lv u h hmn
    refine mapK_rep.1 ((h.kp kp).swap (ρ2 := fun j => ρ2 (f j)) fun k hk => hρ k ?_)
    rintro rfl
    rw [hmn] at hk; cases hk
  refine ⟨I.dfr, I.size, I.frm, fun t lv h => ?_, fun k e h => ?_, fun k e b h hb => ?_, fun k k' e e' b h h' hb hb' => ?_, I.out, fun k v hv => ?_⟩
  · obtain ⟨lv0, h1, rfl⟩ := mapT_lookup h
    rcases clrT_lookup h1 with ⟨h2, h3⟩ | rfl
    · exact hLV (I.tmp t lv0 h2) h3
    · exact trivial
  · obtain ⟨j, e0, h1, h2, h3, rfl, h5, h6⟩ := hl k e h
    subst h3
    refine mapK_erep ((I.ent j e0 h1).step kp (fun _ _ => rfl) h5 ?_)
    intro cells hc i lv u hi2 hlv
    refine hlv.swap fun k hk => hρ k ?_
    rintro rfl
    rcases hc with rfl | ⟨T, rfl⟩ <;>
    · simp only [Ent.mentions, List.any_eq_false] at h6
      have := h6 lv (List.mem_of_getElem? hi2)
      rw [hk] at this; simp at this
  · obtain ⟨j, e0, h1, h2, h3, rfl, h5, h6⟩ := hl k e h
    have h7 : upd ρ K0 (ρ d) k = ρ j := h5
    rw [h7] at hb
    exact I.new j e0 b h1 hb
  · obtain ⟨j, e0, h1, h2, h3, rfl, h5, h6⟩ := hl k e h
    obtain ⟨j', e0', h1', h2', h3', rfl, h5', h6'⟩ := hl k' e' h'
    have h7 : upd ρ K0 (ρ d) k = ρ j := h5
    have h7' : upd ρ K0 (ρ d) k' = ρ j' := h5'
    rw [h7] at hb
    rw [h7'] at hb'
    have := I.sep j j' e0 e0' b h1 h1' hb hb'
    subst this
    rw [← h3, ← h3']
  · by_cases hk : k = K0
    · subst hk; rw [hi] at hv; cases hv
    · show ρ2 k = v
      simp only [ρ2]
      rw [upd_ne _ _ hk]; exact I.inn k v hv
end
theorem Le.trans {Γ : Ctx} {a b c : St} (h1 : Le Γ a b) (h2 : Le Γ b c) : Le Γ a c := fun x w I => h1 x w (h2 x w I)
theorem le_rn {Γ : Ctx} {t : List (Nat × LV)} {h : List (Nat × Ent)} (K0 d : Nat) (hm : (dropH K0 h).all (fun p => !p.2.mentions K0) = true) (hi : Γ.inn K0 = none) (hd : Γ.inn d = none) : Le Γ ⟨mapT (rn d K0) (clrT K0 t), mapH (rn d K0) (dropH K0 h)⟩ ⟨t, h⟩ :=
  fun _ _ ⟨_, I⟩ => ⟨_, I.renm hm hi hd⟩
theorem le_fz {Γ : Ctx} {t : List (Nat × LV)} {h : List (Nat × Ent)} {n T : Nat} {l : List SV} (k : Nat) (hk : h.lookup k = some (.row n T l)) : Le Γ ⟨fzT k n l t, fzH k n l h⟩ ⟨t, h⟩ := fun _ _ ⟨_, I⟩ => ⟨_, I.freezeH hk⟩
section
variable {Γ : Ctx} {ops : Array Oper} {l : List (Oper × Nat)} {σ : St} {t : List (Nat × LV)} {h : List (Nat × Ent)} {K : St → Prop} {c d ty : Nat} {ps : String} {af : Array Edge} {x y : Operand}
theorem run_le {l : List (Oper × Nat)} {σ' : St} (hl : Le Γ σ' σ) (hk : RunL Γ ops l σ' K) : RunL Γ ops l σ K := fun hd a w I => hk hd a w (hl a w I)
end
end Go.Abs

/- Calls of functions that are lent boxes and rows of ours; functions that hold boxes of ours; rows of rows that grow. No condition. -/
namespace Go.Abs
open Go Go.RowKit Go.Eager
set_option linter.unusedVariables false
set_option linter.unusedSimpArgs false
section
variable {Γ : Ctx} {ops : Array Oper} {l : List (Oper × Nat)} {t : List (Nat × LV)} {h : List (Nat × Ent)} {K : St → Prop} {c d ty : Nat} {ps : String} {af : Array Edge} {x y : Operand}
end
end Go.Abs

/- As Eager: 'a later world' is any that a relation of ours says. No condition. -/
namespace Go.EagerX
open Go Go.RowKit Go.Eager
set_option linter.unusedVariables false
set_option linter.unusedSimpArgs false
section
variable (E : World → World → Prop) (P : Program) (ops : Array Oper) (cls : Nat → Nat) (Q : Act → World → Prop)

def opN (i : Nat) (K : Act → World → Prop) (a : Act) (w : World) : Prop :=
  match ops[i]? with
  | none => K a w
  | some o => if Region.wanted o (yielded ops a.tmps) then oN P o a w (fun v w' => (cls i ≠ 2 → E w w') ∧ K (a.put o.dst v) w') else K (a.put o.dst undef) w

def anyN : Nat → Array Bool → Act → World → Prop
  | 0, listed, a, w => Region.ready .any ops listed = [] ∧ Q a w
  | n + 1, listed, a, w => (Region.ready .any ops listed = [] → Q a w) ∧ ∀ i ∈ Region.ready .any ops listed, opN E P ops cls i (anyN n (listed.setIfInBounds i true)) a w

theorem opN_mono {E : World → World → Prop} {P : Program} {ops : Array Oper} {cls : Nat → Nat} {i : Nat} {a : Act} {w : World} {K K' : Act → World → Prop} (h : ∀ a w, K a w → K' a w) (hh : opN E P ops cls i K a w) : opN E P ops cls i K' a w := by
  unfold opN at *
  split
  · exact h _ _ (by simpa [*] using hh)
  · rename_i o ho
    simp only [ho] at hh
    split
    · rename_i hw; simp only [hw, if_true] at hh; exact oN_mono (fun v w' hk => ⟨hk.1, h _ _ hk.2⟩) hh
    · rename_i hw; simp only [hw] at hh; exact h _ _ hh

theorem wpAny_of_anyN {E : World → World → Prop} {P : Program} {ops : Array Oper} {cls : Nat → Nat} {Q : Act → World → Prop} {Q' : Exit → Act → World → Prop} (hQ : ∀ a w, Q a w → Q' .normal a w) :
    ∀ (n : Nat) (listed : Array Bool) (a : Act) (w : World), anyN E P ops cls Q n listed a w → wpAny P .any ops Q' n listed a w
  | 0, _, _, _, h => ⟨h.1, hQ _ _ h.2⟩
  | n + 1, listed, a, w, h => ⟨fun h0 => hQ _ _ (h.1 h0), fun i hi => by
      have h2 := h.2 i hi
      unfold opN at h2
      unfold wpOp
      cases ho : ops[i]? with
      | none => simp only [ho] at h2 ⊢; exact wpAny_of_anyN hQ n _ _ _ h2
      | some o =>
        simp only [ho] at h2 ⊢
        split
        · rename_i hw; simp only [hw, if_true] at h2
          exact .inl (oN_wp (oN_mono (fun v w' hk => wpAny_of_anyN hQ n _ _ _ hk.2) h2))
        · rename_i hw; simp only [hw] at h2; exact wpAny_of_anyN hQ n _ _ _ h2⟩

def Stands (c : Nat) (o : Oper) (a : Act) (w : World) (v : Value) : Prop :=
  (Region.wanted o (yielded ops a.tmps) = true ∧ ∀ w', (c = 0 ∨ E w w') → (execOp a.eval o).run P w' = .ok (.value v) w') ∨
  (Region.wanted o (yielded ops a.tmps) = false ∧ v = undef)

theorem Stands.later {E : World → World → Prop} (ht : ∀ a b c : World, E a b → E b c → E a c) {P : Program} {ops : Array Oper} {c : Nat} {o : Oper} {a : Act} {w w' : World} {v : Value} (h : Stands E P ops c o a w v) (hw : c = 0 ∨ E w w') : Stands E P ops c o a w' v := by
  rcases h with ⟨h1, h2⟩ | h
  · refine .inl ⟨h1, fun w'' h'' => h2 w'' ?_⟩
    rcases hw with hw | hw
    · exact .inl hw
    · rcases h'' with h'' | h''
      · exact .inl h''
      · exact .inr (ht _ _ _ hw h'')
  · exact .inr h

theorem Stands.of_same {E : World → World → Prop} {P : Program} {ops : Array Oper} {c : Nat} {o : Oper} {a a' : Act} {w : World} {v : Value} (h : Stands E P ops c o a w v) (he : execOp a'.eval o = execOp a.eval o)
    (hw : Region.wanted o (yielded ops a'.tmps) = Region.wanted o (yielded ops a.tmps)) : Stands E P ops c o a' w v := by
  unfold Stands at *; rw [he, hw]; exact h

def closedB (B : Array (List Nat)) : Bool :=
  (List.range ops.size).all fun j => (B.getD j []).all fun m => ((ops[j]?).map fun o => o.after.any fun e => Region.binds .any e && (e.on == m || (B.getD e.on []).contains m)).getD false

def Shut (B : Array (List Nat)) (listed : Array Bool) : Prop := ∀ k m, listed.getD k false = true → m ∈ B.getD k [] → listed.getD m false = true

theorem opN_put {E : World → World → Prop} (ht : ∀ a b c : World, E a b → E b c → E a c) {P : Program} {ops : Array Oper} {cls : Nat → Nat} {j c : Nat} {oi oj : Oper} {v : Value} {w : World} (hj : ops[j]? = some oj) (hap : oi.apart ops oj = true) (hc : c = 0 ∨ cls j ≠ 2)
    (hsi : ∀ cs b, oi.op ≠ .select cs b) (hsj : ∀ cs b, oj.op ≠ .select cs b) {K : Act → World → Prop} {a : Act}
    (hy : Stands E P ops c oi a w v) (h : opN E P ops cls j K (a.put oi.dst v) w) :
    opN E P ops cls j (fun a' w' => Stands E P ops c oi a' w' v ∧ K (a'.put oi.dst v) w') a w := by
  obtain ⟨h1, h2, h3⟩ := Oper.apart_spec hap
  have keep : ∀ (a : Act) (w : World), Stands E P ops c oi a w v → ∀ u, Stands E P ops c oi (a.put oj.dst u) w v := fun a w hy u =>
    hy.of_same (execOp_put oi hsi a oj.dst u h3) (wanted_put oi a oj.dst u h3)
  unfold opN at *
  simp only [hj] at *
  rw [wanted_put oj a oi.dst v h1] at h
  split
  · rename_i hw
    simp only [hw, if_true] at h
    unfold oN at h
    rw [execOp_put oj hsj a oi.dst v h1] at h
    refine oN_mono (K := fun u w' => (cls j ≠ 2 → E w w') ∧ K ((a.put oi.dst v).put oj.dst u) w') ?_ h
    rintro u w' ⟨he, hk⟩
    refine ⟨he, keep a w' (hy.later ht (hc.imp id he)) u, ?_⟩
    rw [← Act.put_comm a v u h2]; exact hk
  · rename_i hw
    simp only [hw] at h
    exact ⟨keep a w hy _, by rw [← Act.put_comm a v undef h2]; exact h⟩

theorem anyN_first {E : World → World → Prop} (hr0 : ∀ w, E w w) (ht : ∀ a b c : World, E a b → E b c → E a c) {P : Program} {ops : Array Oper} {cls : Nat → Nat} {Q : Act → World → Prop} {B : Array (List Nat)} (hB : closedB ops B = true) {i c : Nat} {oi : Oper} {v : Value} (hi : ops[i]? = some oi) (hci : cls i ≠ 2)
    (hsel : ∀ (j : Nat) (o : Oper) cs b, ops[j]? = some o → o.op ≠ .select cs b) :
    ∀ (fuel : Nat) (listed : Array Bool) (a : Act) (w : World), Shut B listed →
      (∀ j oj, ops[j]? = some oj → j ≠ i → listed.getD j true = false → i ∉ B.getD j [] → oi.apart ops oj = true ∧ (c = 0 ∨ cls j ≠ 2)) →
      i ∈ Region.ready .any ops listed → Stands E P ops c oi a w v →
      anyN E P ops cls Q fuel (listed.setIfInBounds i true) (a.put oi.dst v) w → anyN E P ops cls Q (fuel + 1) listed a w := by
  have own : ∀ {K : Act → World → Prop} {a : Act} {w : World}, Stands E P ops c oi a w v → K (a.put oi.dst v) w → opN E P ops cls i K a w := by
    intro K a w hy hk
    unfold opN
    simp only [hi]
    rcases hy with ⟨hw, hv⟩ | ⟨hw, rfl⟩
    · simp only [hw, if_true]; unfold oN; rw [hv w (.inr (hr0 w))]; exact ⟨fun _ => hr0 w, hk⟩
    · simp only [hw]; exact hk
  intro fuel
  induction fuel with
  | zero =>
    intro listed a w _ _ hr hy H
    refine ⟨fun h => (by rw [h] at hr; cases hr), fun j hj => ?_⟩
    by_cases hji : j = i
    · subst hji; exact own hy H
    · have := ready_mono hj hji
      rw [H.1] at this
      cases this
  | succ fuel ih =>
    intro listed a w hS hfree hr hy H
    refine ⟨fun h => (by rw [h] at hr; cases hr), fun j hj => ?_⟩
    by_cases hji : j = i
    · subst hji; exact own hy H
    · have h1 := H.2 j (ready_mono hj hji)
      obtain ⟨hjun, oj, hoj, _⟩ := mem_ready.1 hj
      have hnot : i ∉ B.getD j [] := ready_not_waits hB hS hj (unlisted_of_ready hr)
      have hf := hfree j oj hoj hji hjun hnot
      have h2 := opN_put ht hoj hf.1 hf.2 (fun cs b => hsel i oi cs b hi) (fun cs b => hsel j oj cs b hoj) hy h1
      have hfree' : ∀ k ok, ops[k]? = some ok → k ≠ i → (listed.setIfInBounds j true).getD k true = false → i ∉ B.getD k [] → oi.apart ops ok = true ∧ (c = 0 ∨ cls k ≠ 2) := fun k ok hk hki hun hno => by
        refine hfree k ok hk hki ?_ hno
        by_cases hjk : j = k
        · subst hjk; exact hjun
        · rw [getD_set_ne true hjk] at hun; exact hun
      refine opN_mono (fun a' w' h3 => ih (listed.setIfInBounds j true) a' w' (Go.Eager.Shut.add hB hS hj) hfree' (ready_mono hr (Ne.symm hji)) h3.1 ?_) h2
      rw [Array.setIfInBounds_comm _ _ hji]
      exact h3.2

def wpE : List Nat → Act → World → Prop
  | [], a, w => Q a w
  | i :: s, a, w =>
    match ops[i]? with
    | none => False
    | some o =>
      if cls i ≤ 1 then ∃ v, Stands E P ops (cls i) o a w v ∧ wpE s (a.put o.dst v) w
      else opN E P ops cls i (wpE s) a w

theorem anyN_of_wpE {E : World → World → Prop} (hr0 : ∀ w, E w w) (ht : ∀ a b c : World, E a b → E b c → E a c) {P : Program} {ops : Array Oper} {cls : Nat → Nat} {Q : Act → World → Prop} {B : Array (List Nat)} (hB : closedB ops B = true) (hs : Region.noSelect ops = true) :
    ∀ (s : List Nat) (listed : Array Bool) (a : Act) (w : World), Shut B listed → chk ops cls B s listed = true → wpE E P ops cls Q s a w → anyN E P ops cls Q s.length listed a w
  | [], listed, a, w, _, hc, h => ⟨by simpa [chk] using hc, h⟩
  | i :: s, listed, a, w, hS, hc, h => by
    simp only [chk, Bool.and_eq_true] at hc
    obtain ⟨⟨hr, hf⟩, hc'⟩ := hc
    have hr' : i ∈ Region.ready .any ops listed := by simpa using hr
    unfold wpE at h
    cases hi : ops[i]? with
    | none => simp only [hi] at h
    | some oi =>
      simp only [hi] at h
      by_cases hl : cls i ≤ 1
      · simp only [hl, if_true] at h hf
        obtain ⟨v, hy, hk⟩ := h
        have ih := anyN_of_wpE hr0 ht hB hs s (listed.setIfInBounds i true) (a.put oi.dst v) w (Go.Eager.Shut.add hB hS hr') hc' hk
        simp only [hi, Option.map_some, Option.getD_some, List.all_eq_true, List.mem_range] at hf
        refine anyN_first hr0 ht hB (c := cls i) hi (by omega) (Region.noSelect_spec hs) s.length listed a w hS ?_ hr' hy ih
        intro j oj hoj hji hun hno
        have h1 := hf j (Array.getElem?_eq_some_iff.1 hoj).1
        simp only [hoj, Option.map_some, Option.getD_some, Bool.or_eq_true, Bool.and_eq_true, beq_iff_eq, bne_iff_ne, ne_eq, List.contains_iff_mem] at h1
        rcases h1 with ((h1 | h1) | h1) | h1
        · exact absurd h1 hji
        · rw [h1] at hun; cases hun
        · exact absurd h1 hno
        · exact ⟨h1.1, h1.2⟩
      · simp only [hl, if_false] at h hf
        have hre : Region.ready .any ops listed = [i] := by simpa using hf
        refine ⟨fun h0 => (by rw [h0] at hr'; cases hr'), fun j hj => ?_⟩
        rw [hre] at hj
        obtain rfl : j = i := by simpa using hj
        exact opN_mono (fun a' w' h3 => anyN_of_wpE hr0 ht hB hs s _ a' w' (Go.Eager.Shut.add hB hS hr') hc' h3) h

theorem wp_region_eager {E : World → World → Prop} (hr0 : ∀ w, E w w) (ht : ∀ a b c : World, E a b → E b c → E a c) {P : Program} {ops : Array Oper} {id : Nat} {Q : Exit → Act → World → Prop} {a : Act} {w : World} (cls : Nat → Nat) (B : Array (List Nat)) (s : List Nat)
    (hm : P.follows .mixedOrders = true) (hc : (closedB ops B && Region.noSelect ops && (s.length == ops.size) && chk ops cls B s (Array.replicate ops.size false)) = true)
    (h : wpE E P ops cls (Q .normal) s a { w with drawn := w.drawn + 1 }) : (Code.region id ops true).wp P Q a w := by
  simp only [Bool.and_eq_true, beq_iff_eq] at hc
  obtain ⟨⟨⟨hB, hs⟩, hl⟩, hk⟩ := hc
  refine wp_region_any hm (wpAny_of_anyN (E := E) (cls := cls) (fun _ _ h => h) _ _ _ _ ?_)
  have := anyN_of_wpE hr0 ht hB hs s (Array.replicate ops.size false) a { w with drawn := w.drawn + 1 } (fun k m hk _ => by
    by_cases hlt : k < ops.size <;> simp [hlt] at hk) hk h
  rwa [hl] at this
end
end Go.EagerX

/- A region that draws its order and appends to a row of ours beside loads that do not read that row. No condition. -/
namespace Go.Abs
open Go Go.RowKit Go.Eager
set_option linter.unusedVariables false
set_option linter.unusedSimpArgs false
structure ExtK (v : Value) (w w' : World) : Prop where
  os : w'.os = w.os
  tape : w'.tape = w.tape
  output : w'.output = w.output
  size : w.heap.size ≤ w'.heap.size
  block : ∀ b, b < w.heap.size → blk v ≠ some b → w'.heap[b]? = w.heap[b]?
theorem ExtK.refl (v : Value) (w : World) : ExtK v w w := ⟨rfl, rfl, rfl, Nat.le_refl _, fun _ _ _ => rfl⟩
theorem ExtK.trans {v : Value} (a b c : World) (h : ExtK v a b) (k : ExtK v b c) : ExtK v a c :=
  ⟨k.os.trans h.os, k.tape.trans h.tape, k.output.trans h.output, Nat.le_trans h.size k.size, fun d hd hn => (k.block d (Nat.lt_of_lt_of_le hd h.size) hn).trans (h.block d hd hn)⟩
theorem ExtK.of {v : Value} {w w' : World} (h : Ext w w') : ExtK v w w' := ⟨h.os, h.tape, h.output, h.size, fun b hb _ => h.block b hb⟩
@[reducible] def Ctx.at (Γ : Ctx) (ki : Nat) (v0 : Value) : Ctx := { Γ with inn := fun k => if k = ki then some v0 else Γ.inn k }
theorem Iv.at {Γ : Ctx} {σ : St} {ρ : Nat → Value} {a : Act} {w : World} (I : Iv Γ σ ρ a w) (ki : Nat) : Iv (Γ.at ki (ρ ki)) σ ρ a w :=
  ⟨I.dfr, I.size, ⟨I.frm.os, I.frm.tape, I.frm.output, I.frm.size, I.frm.block⟩, I.tmp, I.ent, I.new, I.sep, I.out, fun k v h => by
    simp only [Ctx.at] at h
    split at h
    · rename_i hk; subst hk; cases h; rfl
    · exact I.inn k v h⟩
section
variable {Γ : Ctx} {ops : Array Oper} {l : List (Oper × Nat)} {σ : St} {t : List (Nat × LV)} {h : List (Nat × Ent)} {K : St → Prop} {v0 : Value} {c d ty : Nat} {ps : String} {af : Array Edge} {x y : Operand}
end
section
variable {Γ : Ctx} {σ : St} {ρ : Nat → Value} {a : Act} {w : World}
end
section
variable {Γ : Ctx} {ops : Array Oper} {l : List (Oper × Nat)} {t : List (Nat × LV)} {h : List (Nat × Ent)} {K : St → Prop} {v0 : Value} {c d ty : Nat} {ps : String} {af : Array Edge} {x y : Operand}
end
section
variable {Γ : Ctx} {ops : Array Oper} {l : List (Oper × Nat)} {t : List (Nat × LV)} {h : List (Nat × Ent)} {K : St → Prop} {c d ty : Nat} {ps : String} {af : Array Edge} {x y : Operand}
theorem q_bldr {S : Nat} {parts : Array (Nat × Operand)} (us : List (Nat × Value)) (vs : List Value) (hp : parts.toList.map (fun p => (p.1, St.ev ⟨t, h⟩ p.2)) = us.map fun p => (p.1, LV.sv (.raw p.2))) (hb : Γ.P.built S us = some vs.toArray) (h1 : vs.all (·.oneCell') = true)
    (hk : RunL Γ ops l ⟨(d, .sv (.agg (vs.map .raw))) :: t, h⟩ K) : RunL Γ ops ((⟨some d, .build S parts, ty, ps, af, none⟩, c + 2) :: l) ⟨t, h⟩ K := by
  refine run_x (ext := True) rfl (by omega) (fun _ => trivial) fun a w ρ I hd => ?_
  have hparts : (parts.map fun p => (p.1, a.eval p.2)).toList = us := by
    rw [Array.toList_map]
    have key : ∀ (ps : List (Nat × Operand)) (us : List (Nat × Value)), ps.map (fun p => (p.1, St.ev ⟨t, h⟩ p.2)) = us.map (fun p => (p.1, LV.sv (.raw p.2))) → ps.map (fun p => (p.1, a.eval p.2)) = us := by
      intro ps
      induction ps with
      | nil => intro us h; cases us with | nil => rfl | cons => simp at h
      | cons p ps ih =>
        intro us h
        cases us with
        | nil => simp at h
        | cons u us =>
          simp only [List.map_cons, List.cons.injEq, Prod.mk.injEq] at h ⊢
          exact ⟨Prod.ext h.1.1 (ev_raw I h.1.2), ih us h.2⟩
    exact key _ _ hp
  have run : (execOp a.eval ⟨some d, .build S parts, ty, ps, af, none⟩).run Γ.P w = .ok (.value (.agg vs.toArray)) w := by
    rw [← hparts] at hb
    have := run_build (P := Γ.P) w S (parts.map fun p => (p.1, a.eval p.2)) _ hb
    simp [execOp, this]
  unfold XOk oN
  rw [run]
  refine ⟨_, hk, ⟨ρ, I.put (d := some d) (by simpa [dstOk] using hd) (Rep.agg _ _ (by simp) (fun j u hu => ?_) (fun j s u hs hu => ?_))⟩, fun _ => Ext.refl w⟩
  · exact List.all_eq_true.1 h1 u (List.mem_of_getElem? (by simpa using hu))
  · rw [List.getElem?_map] at hs
    have hu' : vs[j]? = some u := by simpa using hu
    rw [hu'] at hs
    simp at hs; subst hs; exact Rep.raw u
end
end Go.Abs

/- A box of ours that is written no more; an append of nothing to a row of ours. No condition. -/
namespace Go.Abs
open Go Go.RowKit Go.Eager
set_option linter.unusedVariables false
set_option linter.unusedSimpArgs false
def fbT (k : Nat) (s : SV) (t : List (Nat × LV)) : List (Nat × LV) := t.map fun p => (p.1, match p.2 with | .ptr k' j => if k' = k then (if j = 0 then .sv (.ptr s) else .dead) else .ptr k' j | lv => lv)
theorem fbT_lookup {k t : Nat} {s : SV} {lv : LV} : ∀ {ts : List (Nat × LV)}, (fbT k s ts).lookup t = some lv → ts.lookup t = some lv ∨ (ts.lookup t = some (.ptr k 0) ∧ lv = .sv (.ptr s)) ∨ lv = .dead
  | [], h => by simp [fbT] at h
  | (t', lv') :: ts, h => by
    simp only [fbT, List.map_cons, List.lookup_cons] at h ⊢
    by_cases ht : t = t'
    · subst ht
      simp only [BEq.rfl, Option.some.injEq] at h ⊢
      subst h
      split
      · rename_i k' j
        by_cases hk : k' = k
        · subst hk
          by_cases hj : j = 0
          · subst hj; simp
          · simp [hj]
        · simp [hk]
      · exact .inl rfl
    · have : (t == t') = false := by simpa using ht
      simp only [this] at h ⊢
      exact fbT_lookup h
section
variable {Γ : Ctx} {σ : St} {ρ : Nat → Value} {a : Act} {w : World}
theorem Iv.freezeB (I : Iv Γ σ ρ a w) {k : Nat} {l : List SV} (hk : σ.h.lookup k = some (.box (l.map .sv))) (hl : l ≠ []) : Iv Γ ⟨fbT k (.agg l) σ.t, dropH k σ.h⟩ ρ a w := by
  have J : Iv Γ ⟨σ.t, dropH k σ.h⟩ ρ a w := I.sub (fun _ _ h => h) fun k e h => (dropH_lookup h).1
  have hv : ∀ b, ρ k = .pointer (some ⟨b, 0, none⟩) → Rep w (Own Γ (dropH k σ.h) ρ) (.ptr (.agg l)) (.pointer (some ⟨b, 0, none⟩)) := by
    intro b0 hb0
    obtain ⟨b, T, cur, hr, hcur, hsz, hc⟩ := I.ent k _ hk
    rw [hb0] at hr
    simp only [Value.pointer.injEq, Option.some.injEq, Addr.mk.injEq, and_true] at hr
    subst hr
    have hbk : blk (ρ k) = some b0 := by rw [hb0]; rfl
    have hlen : cur.size = l.length := by rw [hsz]; simp
    refine Rep.ptr (.agg l) b0 0 (.agg cur) ?_ (Rep.agg l cur hlen (fun i u hu => ?_) (fun i s u hs hu => ?_)) ?_ ?_
    · rintro (hO | ⟨k1, e1, hk1, hb1⟩)
      · have h1 := I.out b0 hO
        rcases (I.new k _ b0 hk hbk).1 with h | h
        · omega
        · exact h1.2 h
      · obtain ⟨h1, h2⟩ := dropH_lookup hk1
        exact h2 (I.sep k1 k e1 _ b0 h1 hk hb1 hbk)
    · have hlt : i < (l.map LV.sv).length := by rw [← hsz]; exact (Array.getElem?_eq_some_iff.1 hu).1
      exact (hc i _ u (List.getElem?_eq_getElem hlt) hu).2
    · have h1 : (l.map LV.sv)[i]? = some (.sv s) := by rw [List.getElem?_map, hs]; rfl
      exact Rep.kp (hc i _ u h1 hu).1 (Own.sub fun k e h => (dropH_lookup h).1)
    · simp only [Value.cells]
      have : 0 < l.length := List.length_pos_iff.2 hl
      omega
    · intro j u hu
      rw [cell_of_row w b0 (0 + j) cur T (0, 0) hcur, Nat.zero_add]; exact hu
  refine ⟨J.dfr, J.size, J.frm, ?_, J.ent, J.new, J.sep, J.out, J.inn⟩
  intro t lv h
  rcases fbT_lookup h with h' | ⟨h', rfl⟩ | rfl
  · exact J.tmp t lv h'
  · obtain ⟨b, e1, e2⟩ := I.tmp t _ h'
    show Rep w _ _ _
    rw [e2]; exact hv b e1
  · exact trivial
end
theorem le_fb {Γ : Ctx} {t : List (Nat × LV)} {h : List (Nat × Ent)} {c : List LV} (k : Nat) (l : List SV) (hk : h.lookup k = some (.box c)) (hc : c = l.map .sv) (hl : l ≠ []) : Le Γ ⟨fbT k (.agg l) t, dropH k h⟩ ⟨t, h⟩ := by
  subst hc; exact fun _ _ ⟨_, I⟩ => ⟨_, I.freezeB hk hl⟩
section
variable {Γ : Ctx} {ops : Array Oper} {l : List (Oper × Nat)} {t : List (Nat × LV)} {h : List (Nat × Ent)} {K : St → Prop} {c d ty : Nat} {ps : String} {af : Array Edge} {x y : Operand}
end
end Go.Abs

/- A function that hands back a row of its own, of copies that stand apart. No condition. -/
namespace Go.Abs
open Go Go.RowKit Go.Eager
set_option linter.unusedVariables false
def PFnOT (P : Program) (f : FuncId) (args : List SV) (n T : Nat) (ss : List SV) : Prop :=
  ∀ (w : World) (O : Nat → Prop) (vs : Array Value), (∀ b, O b → b < w.heap.size) → vs.size = args.length →
    (∀ (i : Nat) (s : SV) (u : Value), args[i]? = some s → vs[i]? = some u → Rep w O s u) →
    Calls P f vs w fun e w' => ∃ v rs, e = .returned v ∧ Ext w w' ∧ 0 < n ∧ Cps w rs ss ∧ ∃ (xs : List Value) (vals : Nat → Value), w'.ownsRow w.heap.size T n v rs.length xs ∧
      ∀ (i : Nat) (s : SV), rs[i]? = some s → Rep w' (fun b => O b ∨ blk v = some b) s (vals i) ∧ (vals i).cells.size = n ∧ ∀ (j : Nat) (u : Value), (vals i).cells[j]? = some u → xs[i * n + j]? = some u
def endOT (w0 : World) (t n T : Nat) (ss : List SV) : Exit → St → Prop
  | .normal, σ | .ret, σ => ∃ k rs, σ.ev (.tmp t) = .own k ∧ σ.h.lookup k = some (.row n T rs) ∧ Cps w0 rs ss
  | _, _ => False
theorem fnot_ok_at {P : Program} {f : FuncId} {fn : Func} {c : Code} {args : List SV} {t n T : Nat} {ss : List SV} (hz : 0 < n) (hf : P.funcs[f]? = some fn) (hb : fn.body = some c) (hrs : fn.results = #[.tmp t]) (hn : args.length ≤ fn.ntmps)
    (w : World) (O : Nat → Prop) (h : Ok { P := P, w0 := w, O := O, M := fun _ => False, inn := fun _ => none, n := fn.ntmps } c ⟨args.zipIdx.map fun p => (p.2, .sv p.1), []⟩ (endOT w t n T ss)) (vs : Array Value) (hO : ∀ b, O b → b < w.heap.size) (hvs : vs.size = args.length)
    (hrep : ∀ (i : Nat) (s : SV) (u : Value), args[i]? = some s → vs[i]? = some u → Rep w O s u) : Calls P f vs w fun e w' => ∃ v rs, e = .returned v ∧ Ext w w' ∧ 0 < n ∧ Cps w rs ss ∧ ∃ (xs : List Value) (vals : Nat → Value), w'.ownsRow w.heap.size T n v rs.length xs ∧
      ∀ (i : Nat) (s : SV), rs[i]? = some s → Rep w' (fun b => O b ∨ blk v = some b) s (vals i) ∧ (vals i).cells.size = n ∧ ∀ (j : Nat) (u : Value), (vals i).cells[j]? = some u → xs[i * n + j]? = some u := by
  refine calls_of_wp hf hb ?_
  let Γ : Ctx := { P := P, w0 := w, O := O, M := fun _ => False, inn := fun _ => none, n := fn.ntmps }
  have hlk : ∀ (l : List SV) (k t : Nat) (lv : LV), ((l.zipIdx k).map fun p => (p.2, LV.sv p.1)).lookup t = some lv → ∃ s, l[t - k]? = some s ∧ lv = .sv s ∧ k ≤ t := by
    intro l
    induction l with
    | nil => intro k t lv h; simp at h
    | cons s l ih =>
      intro k t lv h
      simp only [List.zipIdx_cons, List.map_cons, List.lookup_cons] at h
      by_cases ht : t = k
      · subst ht; simp at h; exact ⟨s, by simp, h.symm, Nat.le_refl _⟩
      · have : (t == k) = false := by simpa using ht
        simp only [this] at h
        obtain ⟨s', h1, h2, h3⟩ := ih (k + 1) t lv h
        refine ⟨s', ?_, h2, by omega⟩
        rw [show t - k = (t - (k + 1)) + 1 by omega]; simpa using h1
  have I : Inv Γ ⟨args.zipIdx.map fun p => (p.2, .sv p.1), []⟩ { tmps := vs ++ Array.replicate (fn.ntmps - vs.size) undef, defers := [] } w := by
    refine ⟨fun _ => undef, ⟨rfl, by simp [Γ]; omega, ⟨rfl, rfl, rfl, Nat.le_refl _, fun _ _ _ => rfl⟩, ?_, ?_, ?_, ?_, fun b hb => ⟨hO b hb, fun h => h⟩, ?_⟩⟩
    · intro t lv ht
      obtain ⟨s, h1, rfl, _⟩ := hlk args 0 t lv ht
      have hlt : t < vs.size := by rw [hvs]; simpa using (List.getElem?_eq_some_iff.1 h1).1
      have hu : vs[t]? = some vs[t] := Array.getElem?_eq_getElem hlt
      have h2 := hrep t s _ (by simpa using h1) hu
      have h3 : (vs ++ Array.replicate (fn.ntmps - vs.size) undef).getD t undef = vs[t] := by
        rw [Array.getD_eq_getD_getElem?, Array.getElem?_append_left hlt, hu]; rfl
      show Rep w _ s _
      rw [h3]
      exact Rep.kp h2 fun b _ hno => ⟨rfl, fun h => by
        rcases h with h | ⟨k, e, hk, _⟩
        · exact hno h
        · simp at hk⟩
    · intro k e hk; simp at hk
    · intro k e b hk; simp at hk
    · intro k k' e e' b hk; simp at hk
    · intro k v hv; simp [Γ] at hv
  refine wp_mono (h _ w I) ?_
  rintro e a' w' ⟨σ', hq, ρ, J⟩
  have hres : (results fn a'.tmps).run P w' = .ok (a'.tmps.getD t undef) w' := by
    unfold results
    rw [hrs]
    simp
  have fin : (∃ k rs, σ'.ev (.tmp t) = .own k ∧ σ'.h.lookup k = some (.row n T rs) ∧ Cps w rs ss) →
      a'.defers = [] ∧ ∃ v, (results fn a'.tmps).run P w' = .ok v w' ∧ ∃ v' rs, Ending.returned v = .returned v' ∧ Ext w w' ∧ 0 < n ∧ Cps w rs ss ∧ ∃ (xs : List Value) (vals : Nat → Value), w'.ownsRow w.heap.size T n v' rs.length xs ∧
      ∀ (i : Nat) (s : SV), rs[i]? = some s → Rep w' (fun b => O b ∨ blk v' = some b) s (vals i) ∧ (vals i).cells.size = n ∧ ∀ (j : Nat) (u : Value), (vals i).cells[j]? = some u → xs[i * n + j]? = some u := by
    have hext : Ext w w' := ⟨J.frm.os, J.frm.tape, J.frm.output, J.frm.size, fun b hb => J.frm.block b hb (fun h => h)⟩
    rintro ⟨k, rs, h1, h2, h5⟩
    have hv : a'.tmps.getD t undef = ρ k := by have := J.ev (.tmp t); rw [h1] at this; exact this
    obtain ⟨hz', xs, vals, hown, hel⟩ := J.ent k _ h2
    refine ⟨J.dfr, _, hres, _, rs, rfl, hext, hz, h5, xs, vals, ?_, fun i s hi => ?_⟩
    · rw [hv]
      refine ⟨hown.1, ?_⟩
      rcases hown.2 with h | ⟨g, cap, cur, e1, _, e3⟩
      · exact .inl h
      · refine .inr ⟨g, cap, cur, e1, ?_, e3⟩
        rcases (J.new k _ g h2 (by rw [e1]; rfl)).1 with h | h
        · exact h
        · exact h.elim
    · obtain ⟨r1, r2, r3⟩ := hel i s hi
      refine ⟨r1.kp (fun b hb hno => ⟨rfl, ?_⟩), r2, r3⟩
      rintro (h | h)
      · exact hno (.inl h)
      · rw [hv] at h; exact hno (.inr ⟨k, _, h2, h⟩)
  cases e with
  | normal => exact fin hq
  | ret => exact fin hq
  | _ => exact hq.elim
theorem fnot_ok {P : Program} {f : FuncId} {fn : Func} {c : Code} {args : List SV} {t n T m : Nat} {ss : List SV} {t0 : List (Nat × LV)} (hz : 0 < n) (hf : P.funcs[f]? = some fn) (hb : fn.body = some c) (hrs : fn.results = #[.tmp t]) (hnt : fn.ntmps = m) (hn : args.length ≤ m)
    (ht : (args.zipIdx.map fun p => (p.2, LV.sv p.1)) = t0) (h : ∀ w0 O, Ok (ctx P w0 O m) c ⟨t0, []⟩ (endOT w0 t n T ss)) : PFnOT P f args n T ss := by
  subst hnt ht
  intro w O
  exact fnot_ok_at hz hf hb hrs hn w O (h w O)
section
variable {Γ : Ctx} {σ : St} {ρ : Nat → Value} {a : Act} {w : World}
theorem ok_callot (I : Iv Γ σ ρ a w) {o : Oper} {f : FuncId} {fn : Func} {args : Array Operand} {ts : Array TypeId} {sa : List SV} {n T d : Nat} {ss : List SV} {K : St → Prop}
    (ho : o.op = .call { callee := .value (.func f), args := args, argTypes := ts }) (hd : o.dst = some d) (hdn : d < Γ.n) (hf : Γ.P.funcs[f]? = some fn) (hname : (fn.name == "runtime.NumGoroutine") = false) (hb : fn.body.isNone = false)
    (ha : ArgsOk (args.toList.map σ.ev) sa) (hfr : σ.free d = true) (hi : Γ.inn d = none) (hc : PFnOT Γ.P f sa n T ss) (hk : ∀ rs, Cps Γ.w0 rs ss → (∀ r ∈ rs, Apart σ.t σ.h r) → K ⟨(d, .own d) :: σ.t, ins d (.row n T rs) σ.h⟩) : XOk Γ a w o True K := by
  have hrun : (execOp a.eval o).run Γ.P w = .ok (.enter f (args.map a.eval)) w := by
    have hY : a.eval (.func f) = .func (.func f) #[] #[] := rfl
    simp [execOp, ho, resolve, hY, Deferred.ofValue, invoke, run_callFunc hf hname hb]
  have hsz : (args.map a.eval).size = sa.length := by have := argsOk_len ha; simp at this; simp [this]
  obtain ⟨f1, f2, f3⟩ := free_spec hfr
  unfold XOk oN
  rw [hrun]
  refine (hc w (Own Γ σ.h ρ) (args.map a.eval) (fun b hb => blk_lt I hb) hsz fun i s u hi' hu => ?_).mono ?_
  · obtain ⟨lv, h3, hok⟩ := argsOk_get ha hi'
    rw [Array.getElem?_map] at hu
    rw [List.getElem?_map] at h3
    cases hx : args[i]? with
    | none => simp [hx] at hu
    | some x =>
      have hx' : args.toList[i]? = some x := by simpa using hx
      simp only [hx', Option.map_some, Option.some.injEq] at h3
      simp only [hx, Option.map_some, Option.some.injEq] at hu
      subst hu h3
      exact hok.rep (I.ev x)
  · rintro e w' ⟨v, rs, he, hx, hn, hC, xs, vals, hrow, hel⟩
    have I' : Iv Γ ⟨σ.t, ins d (.row n T rs) σ.h⟩ (upd ρ d v) a w' := I.heap (fun t lv h => .inl h) (.inr ⟨f1, fun k1 e1 _ => f2 k1 e1⟩) ⟨hx.os, hx.tape, hx.output, hx.size⟩ (fun b hb _ => hx.block b hb)
      (fun b hb => ⟨(owns_blk hrow hb).2, .inl (owns_blk hrow hb).1⟩) (by rw [hi]; intro v h; cases h)
      ⟨hn, xs, vals, by rw [upd_at]; exact owns_zero hrow, fun i s his => by
        obtain ⟨h1, h2, h3⟩ := hel i s his
        refine ⟨Rep.kp h1 (fun b hb hno => ⟨rfl, ?_⟩), h2, h3⟩
        rintro (hO | ⟨k1, e1, hk1, hb1⟩)
        · exact hno (.inl (.inl hO))
        · rw [lookup_ins] at hk1
          by_cases hkk : k1 = d
          · subst hkk; rw [upd_at] at hb1; exact hno (.inr hb1)
          · rw [if_neg hkk] at hk1; rw [upd_ne _ _ hkk] at hb1; exact hno (.inl (.inr ⟨k1, e1, hk1, hb1⟩))⟩
    refine ⟨v, he, _, hk rs ⟨hC.len, hC.gd, hC.ap, fun r hr b hb => Nat.le_trans I.frm.size (hC.nw r hr b hb)⟩ (fun r hr => apart_of I (hC.nw r hr)), ⟨upd ρ d v, ?_⟩, fun _ => hx⟩
    rw [hd]
    exact I'.put (d := some d) (lv := .own d) (v := v) (by simpa using hdn) (upd_at _ _ _).symm
end
section
variable {Γ : Ctx} {ops : Array Oper} {l : List (Oper × Nat)} {t : List (Nat × LV)} {h : List (Nat × Ent)} {K : St → Prop} {c d ty : Nat} {ps : String} {af : Array Edge} {x y : Operand}
theorem q_callot {f : Nat} {args : Array Operand} {ts : Array Nat} {sa : List SV} {n T : Nat} {ss : List SV} (hc : PFnOT Γ.P f sa n T ss) (hcl : Calb Γ.P f)
    (ha : ArgsOk (args.toList.map (St.ev ⟨t, h⟩)) sa) (hf : St.free ⟨t, h⟩ d = true) (hi : Γ.inn d = none) (hk : ∀ rs, Cps Γ.w0 rs ss → (∀ r ∈ rs, Apart t h r) → RunL Γ ops l ⟨(d, .own d) :: t, ins d (.row n T rs) h⟩ K) :
    RunL Γ ops ((⟨some d, .call { callee := .value (.func f), args := args, argTypes := ts }, ty, ps, af, none⟩, c + 2) :: l) ⟨t, h⟩ K := by
  obtain ⟨_, hf', hname, hb⟩ := hcl
  intro hd
  exact (run_x (K := K) (ext := True) rfl (by omega) (fun _ => trivial) fun _ _ _ I hd' => ok_callot (K := fun σ => RunL Γ ops l σ K) I rfl rfl (by simpa [dstOk] using hd') hf' hname hb ha hf hi hc hk) hd
end
theorem rep_sl_gd {w : World} {O : Nat → Prop} {n : Nat} {rs ss : List SV} {v : Value} (hl : rs.length = ss.length) (hg : ∀ (i : Nat) (r s : SV), rs[i]? = some r → ss[i]? = some s → Gd r s) (h : Rep w O (.sl n rs) v) : Rep w O (.sl n ss) v := by
  generalize hq : SV.sl n rs = q at h
  cases h with
  | nil sz a c =>
    injection hq with h1 h2
    subst h1 h2
    have : ss = [] := List.eq_nil_of_length_eq_zero (by simpa using hl.symm)
    subst this
    exact .nil _ a c
  | sl sz l b off c vals hb hpos hc hz q1 q2 q3 =>
    injection hq with h1 h2
    subst h1 h2
    rw [hl]
    exact .sl n ss b off c vals hb (by omega) (by omega) hz (fun i s hs => by
      have hlt : i < rs.length := by rw [hl]; exact (List.getElem?_eq_some_iff.1 hs).1
      exact (hg i _ s (List.getElem?_eq_getElem hlt) hs).rep (q1 i _ (List.getElem?_eq_getElem hlt))) (fun i hi => q2 i (by omega)) (fun i hi => q3 i (by omega))
  | _ => cases hq
theorem PFn.weakI {P : Program} {f : Nat} {la bs : List SV} {r : SV} (h : PFn P f la r) (hl : bs.length = la.length) (hw : ∀ (i : Nat) (s : SV), la[i]? = some s → ∃ s', bs[i]? = some s' ∧ ∀ w O v, Rep w O s' v → Rep w O s v) : PFn P f bs r := by
  intro w O vs hO hn hv
  refine h w O vs hO (by rw [hn, hl]) fun i s u hs hu => ?_
  obtain ⟨s', h1, h2⟩ := hw i s hs
  exact h2 w O u (hv i s' u h1 hu)
theorem PFn.row1 {P : Program} {f n : Nat} {rs ss rest : List SV} {r : SV} (h : PFn P f (.sl n ss :: rest) r) (hl : rs.length = ss.length) (hg : ∀ (i : Nat) (r s : SV), rs[i]? = some r → ss[i]? = some s → Gd r s) : PFn P f (.sl n rs :: rest) r :=
  PFn.weakI h rfl fun i s hs => by
    cases i with
    | zero => simp at hs; subst hs; exact ⟨_, rfl, fun _ _ _ h => rep_sl_gd hl hg h⟩
    | succ i => exact ⟨s, by simpa using hs, fun _ _ _ h => h⟩
theorem Cps.set {w0 : World} {rs ss : List SV} {i : Nat} {r s : SV} (h : Cps w0 rs ss) (hg : Gd r s) (ha : ∀ (j : Nat) (x : SV), j ≠ i → rs[j]? = some x → ∀ b, Zn b x → ¬ Zn b r) (hn : ∀ b, Zn b r → w0.heap.size ≤ b) : Cps w0 (rs.set i r) (ss.set i s) := by
  have key : ∀ (j : Nat) (x : SV), (rs.set i r)[j]? = some x → (j = i ∧ x = r) ∨ (j ≠ i ∧ rs[j]? = some x) := fun j x hx => set_getG hx
  refine ⟨by rw [List.length_set, List.length_set]; exact h.len, fun j x y hx hy => ?_, fun j1 j2 b x1 x2 h1 h2 z1 z2 => ?_, fun x hx b hb => ?_⟩
  · rcases key j x hx with ⟨rfl, rfl⟩ | ⟨h1, h2⟩
    · rcases set_getG hy with ⟨_, rfl⟩ | ⟨h3, _⟩
      · exact hg
      · exact absurd rfl h3
    · rcases set_getG hy with ⟨h3, _⟩ | ⟨_, h4⟩
      · exact absurd h3 h1
      · exact h.gd j x y h2 h4
  · rcases key j1 x1 h1 with ⟨rfl, rfl⟩ | ⟨a1, a2⟩
    · rcases key j2 x2 h2 with ⟨rfl, _⟩ | ⟨b1, b2⟩
      · rfl
      · exact absurd z1 (ha j2 x2 b1 b2 b z2)
    · rcases key j2 x2 h2 with ⟨rfl, rfl⟩ | ⟨b1, b2⟩
      · exact absurd z2 (ha j1 x1 a1 a2 b z1)
      · exact h.ap j1 j2 b x1 x2 a2 b2 z1 z2
  · obtain ⟨j, hj⟩ := List.getElem?_of_mem hx
    rcases key j x hj with ⟨_, rfl⟩ | ⟨_, h2⟩
    · exact hn b hb
    · exact h.nw x (List.mem_of_getElem? h2) b hb
theorem Cps.insAt {w0 : World} {rs ss : List SV} {i : Nat} {r s : SV} (h : Cps w0 rs ss) (hi : i ≤ rs.length) (hg : Gd r s) (ha : ∀ x ∈ rs, ∀ b, Zn b x → ¬ Zn b r) (hn : ∀ b, Zn b r → w0.heap.size ≤ b) : Cps w0 (Go.Abs.insAt rs i r) (Go.Abs.insAt ss i s) := by
  have hi2 : i ≤ ss.length := by rw [← h.len]; exact hi
  have key : ∀ (j : Nat) (x : SV), (Go.Abs.insAt rs i r)[j]? = some x → (j = i ∧ x = r) ∨ ∃ m, rs[m]? = some x ∧ ((j < i ∧ m = j) ∨ (i < j ∧ m = j - 1)) := by
    intro j x hx
    rw [insAt_get _ _ _ hi] at hx
    split at hx
    · exact .inr ⟨j, hx, .inl ⟨by assumption, rfl⟩⟩
    · split at hx
      · exact .inl ⟨by assumption, by simpa using hx.symm⟩
      · exact .inr ⟨j - 1, hx, .inr ⟨by omega, rfl⟩⟩
  refine ⟨by rw [insAt_len _ _ _ hi, insAt_len _ _ _ hi2, h.len], fun j x y hx hy => ?_, fun j1 j2 b x1 x2 h1 h2 z1 z2 => ?_, fun x hx b hb => ?_⟩
  · rw [insAt_get _ _ _ hi] at hx
    rw [insAt_get _ _ _ hi2] at hy
    split at hx
    · rename_i c1
      rw [if_pos c1] at hy
      exact h.gd _ x y hx hy
    · rename_i c1
      rw [if_neg c1] at hy
      split at hx
      · rename_i c2
        rw [if_pos c2] at hy
        cases hx; cases hy; exact hg
      · rename_i c2
        rw [if_neg c2] at hy
        exact h.gd _ x y hx hy
  · rcases key j1 x1 h1 with ⟨e1, rfl⟩ | ⟨m1, a1, a2⟩
    · rcases key j2 x2 h2 with ⟨e2, _⟩ | ⟨m2, b1, b2⟩
      · omega
      · exact absurd z1 (ha x2 (List.mem_of_getElem? b1) b z2)
    · rcases key j2 x2 h2 with ⟨e2, rfl⟩ | ⟨m2, b1, b2⟩
      · exact absurd z2 (ha x1 (List.mem_of_getElem? a1) b z1)
      · have := h.ap m1 m2 b x1 x2 a1 b1 z1 z2
        omega
  · obtain ⟨j, hj⟩ := List.getElem?_of_mem hx
    rcases key j x hj with ⟨_, rfl⟩ | ⟨m, h2, _⟩
    · exact hn b hb
    · exact h.nw x (List.mem_of_getElem? h2) b hb
theorem cpy_ins {α : Type} (l : List α) (i : Nat) (z x : α) (hi : i ≤ l.length) : (cpy (l ++ [z]) (i + 1) i).set i x = insAt l i x := by
  apply List.ext_getElem?
  intro j
  have hlen : (l ++ [z]).length = l.length + 1 := by simp
  have hm : (((l ++ [z]).drop i).take ((l ++ [z]).length - (i + 1))).length = l.length - i := by rw [List.length_take, List.length_drop, hlen]; omega
  rw [List.getElem?_set, insAt_get _ _ _ hi]
  by_cases h1 : i = j
  · subst h1
    rw [if_pos rfl, if_pos (by rw [cpy_len _ _ _ (by omega)]; omega), if_neg (by omega), if_pos rfl]
  · rw [if_neg h1, cpy_get _ _ _ (by omega), hm]
    by_cases h2 : j < i
    · rw [if_neg (by omega), if_pos h2, List.getElem?_append_left (by omega)]
    · rw [if_neg h2, if_neg (fun h : j = i => h1 h.symm)]
      by_cases h3 : j < i + 1 + (l.length - i)
      · rw [if_pos ⟨by omega, h3⟩, show i + (j - (i + 1)) = j - 1 by omega]
        rw [List.getElem?_append_left (by omega)]
      · rw [if_neg (by omega), List.getElem?_eq_none (by omega), List.getElem?_eq_none (by omega)]
end Go.Abs

/- A copy that stands apart, made a row of ours. No condition. -/
namespace Go.Abs
open Go Go.RowKit Go.Eager
set_option linter.unusedVariables false
set_option linter.unusedSimpArgs false
inductive Zd : SV → Prop
  | raw (u : Value) : Zd (.raw u)
  | tr (Z : Nat → Prop) (s : SV) (v : Value) : Zd (.tr Z s v)
  | agg (l : List SV) (h : ∀ s ∈ l, Zd s) : Zd (.agg l)
  | tup (l : List SV) (h : ∀ s ∈ l, Zd s) : Zd (.tup l)
theorem Gd.zd {r s : SV} (g : Gd r s) : Zd r := by
  induction g with
  | raw v => exact .raw v
  | tr Z n l v => exact .tr Z _ v
  | agg rs ss hn h hap ih =>
    refine .agg rs fun r hr => ?_
    obtain ⟨i, hi⟩ := List.getElem?_of_mem hr
    have hlt : i < ss.length := by rw [← hn]; exact (List.getElem?_eq_some_iff.1 hi).1
    exact ih i r ss[i] hi (List.getElem?_eq_getElem hlt)
theorem Zd.rep {w : World} {O O' : Nat → Prop} {r : SV} (z : Zd r) : ∀ {v : Value}, Rep w O r v → (∀ b, Zn b r → ¬ O' b) → Rep w O' r v := by
  induction z with
  | raw u => intro v h _; cases h; exact .raw _
  | tr Z s u => intro v h hn; cases h with | tr _ _ _ h1 h2 => exact .tr Z s _ h1 fun b hb => ⟨(h2 b hb).1, hn b (.tr Z s _ hb)⟩
  | agg l _ ih =>
    intro v h hn
    cases h with
    | agg _ vs h0 h1 h2 => exact .agg l vs h0 h1 fun i s u hs hu => ih s (List.mem_of_getElem? hs) (h2 i s u hs hu) fun b hb => hn b (.agg l s (List.mem_of_getElem? hs) hb)
  | tup l _ ih =>
    intro v h hn
    cases h with
    | tup _ vs h0 h2 => exact .tup l vs h0 fun i s u hs hu => ih s (List.mem_of_getElem? hs) (h2 i s u hs hu) fun b hb => hn b (.tup l s (List.mem_of_getElem? hs) hb)
def AsL (Z : Nat → Prop) : LV → Prop
  | .sv s => Zd s ∧ ∀ b, Z b → ¬ Zn b s
  | .av Z' _ => ∀ b, Z b → Z' b
  | _ => True
def AsE (Z : Nat → Prop) : Ent → Prop
  | .box c => ∀ lv ∈ c, AsL Z lv
  | .row _ _ rs => ∀ r ∈ rs, Zd r ∧ ∀ b, Z b → ¬ Zn b r
  | .rowl _ c => ∀ lv ∈ c, AsL Z lv
  | .map _ _ => True
def AsT (Z : Nat → Prop) : List (Nat × LV) → Prop
  | [] => True
  | (_, lv) :: t => AsL Z lv ∧ AsT Z t
def AsH (Z : Nat → Prop) : List (Nat × Ent) → Prop
  | [] => True
  | (_, e) :: h => AsE Z e ∧ AsH Z h
theorem asT_get {Z : Nat → Prop} {k : Nat} {lv : LV} : ∀ {t : List (Nat × LV)}, AsT Z t → t.lookup k = some lv → AsL Z lv
  | [], _, h => by simp at h
  | (a, x) :: t, ⟨h1, h2⟩, h => by
    rw [List.lookup_cons] at h
    cases hk : (k == a) with
    | true => simp only [hk, Option.some.injEq] at h; exact h ▸ h1
    | false => simp only [hk] at h; exact asT_get h2 h
theorem asH_get {Z : Nat → Prop} {k : Nat} {e : Ent} : ∀ {t : List (Nat × Ent)}, AsH Z t → t.lookup k = some e → AsE Z e
  | [], _, h => by simp at h
  | (a, x) :: t, ⟨h1, h2⟩, h => by
    rw [List.lookup_cons] at h
    cases hk : (k == a) with
    | true => simp only [hk, Option.some.injEq] at h; exact h ▸ h1
    | false => simp only [hk] at h; exact asH_get h2 h
theorem asL_raw (Z : Nat → Prop) (u : Value) : AsL Z (.sv (.raw u)) := ⟨.raw u, fun b _ h => zn_raw h⟩
theorem asL_tr {Z Z' : Nat → Prop} {s : SV} {v : Value} (h : ∀ b, Z b → ¬ Z' b) : AsL Z (.sv (.tr Z' s v)) := ⟨.tr _ _ _, fun b hb hn => h b hb (zn_tr hn)⟩
section
variable {Γ : Ctx} {σ : St} {ρ : Nat → Value} {a : Act} {w : World}
theorem Iv.otr (I : Iv Γ σ ρ a w) {d n : Nat} {Z : Nat → Prop} {ss : List SV} {v : Value} (h0 : ss ≠ []) (hT : Tree w Z (.sl n ss) v) (hZ : ∀ b, Z b → b < w.heap.size ∧ ¬ Own Γ σ.h ρ b) (hM : ∀ b, Z b → Γ.w0.heap.size ≤ b ∨ Γ.M b)
    (hf : σ.free d = true) (hi : Γ.inn d = none) (ht : AsT Z σ.t) (hh : AsH Z σ.h) :
    ∃ (T : Nat) (rs : List SV), rs.length = ss.length ∧ (∀ (i : Nat) (r s : SV), rs[i]? = some r → ss[i]? = some s → Gd r s) ∧ (∀ (i j b : Nat) (ri rj : SV), rs[i]? = some ri → rs[j]? = some rj → Zn b ri → Zn b rj → i = j) ∧
      (∀ r ∈ rs, ∀ b, Zn b r → Z b) ∧ Iv Γ ⟨σ.t, ins d (.row n T rs) σ.h⟩ (upd ρ d v) a w := by
  generalize hs : SV.sl n ss = s at hT
  cases hT with
  | raw => cases hs
  | agg => cases hs
  | nil _ sz a' c' => injection hs with h1 h2; exact absurd h2 h0
  | sl _ sz T l b c cur vals z hb hl hc hz hcm hcs hg hel hsz hcl hzn hap =>
    injection hs with h1 h2
    subst h1 h2
    obtain ⟨f1, f2, f3⟩ := free_spec hf
    have hx : ∀ i, i < ss.length → ∃ r, ∀ s, ss[i]? = some s → Gd r s ∧ (∀ q, Zn q r → z i q) ∧ Rep w (fun q => Own Γ σ.h ρ q ∨ q = b) r (vals i) := by
      intro i hi
      obtain ⟨r, h1, h2, h3⟩ := tree_open (O := fun q => Own Γ σ.h ρ q ∨ q = b) (hel i ss[i] (List.getElem?_eq_getElem hi)) (fun q hq => ⟨(hZ q (hzn i q hq).1).1, fun h => h.elim (hZ q (hzn i q hq).1).2 (hzn i q hq).2⟩)
      refine ⟨r, fun s hs => ?_⟩
      rw [List.getElem?_eq_getElem hi] at hs
      cases hs
      exact ⟨h1, h2, h3⟩
    obtain ⟨g, hg'⟩ := @choose_lt' SV ⟨.raw undef⟩ ss.length _ hx
    have hget : ∀ i r, ((List.range ss.length).map g)[i]? = some r → i < ss.length ∧ g i = r := fun i r hi => get_of_family g hi
    have hrl : ((List.range ss.length).map g).length = ss.length := by simp
    have hgz : ∀ r ∈ (List.range ss.length).map g, ∀ q, Zn q r → Z q ∧ q ≠ b := by
      intro r hr q hq
      obtain ⟨i, hi'⟩ := List.getElem?_of_mem hr
      obtain ⟨hi, rfl⟩ := hget i r hi'
      exact hzn i q ((hg' i hi _ (List.getElem?_eq_getElem hi)).2.1 q hq)
    have hmul : ss.length * n ≤ cur.size := by rw [hcs]; exact Nat.mul_le_mul_right n hc
    have hO' : ∀ q, Own Γ (ins d (.row n T ((List.range ss.length).map g)) σ.h) (upd ρ d (.slice (some ⟨b, 0, none⟩) ss.length c)) q → Own Γ σ.h ρ q ∨ q = b := by
      rintro q (hO | ⟨k1, e1, hk1, hb1⟩)
      · exact .inl (.inl hO)
      · rw [lookup_ins] at hk1
        by_cases h : k1 = d
        · subst h; rw [upd_at] at hb1; simp [blk] at hb1; exact .inr hb1.symm
        · rw [if_neg h] at hk1; rw [upd_ne _ _ h] at hb1; exact .inl (.inr ⟨k1, e1, hk1, hb1⟩)
    have hLb : ∀ {lv : LV} {u : Value}, AsL Z lv → lv.mentions d = false → LRep w (Own Γ σ.h ρ) ρ lv u → LRep w (Own Γ (ins d (.row n T ((List.range ss.length).map g)) σ.h) (upd ρ d (.slice (some ⟨b, 0, none⟩) ss.length c))) (upd ρ d (.slice (some ⟨b, 0, none⟩) ss.length c)) lv u := by
      intro lv u has hm hr
      refine LRep.upd (v' := .slice (some ⟨b, 0, none⟩) ss.length c) (k := d) ?_ hm
      cases lv with
      | sv s =>
        refine Zd.rep has.1 hr fun q hq hO => ?_
        rcases hO' q hO with h | rfl
        · exact (Rep.zn hq hr).2 h
        · exact has.2 _ hb hq
      | av Z' s =>
        refine Rep.kp (O := fun q => Own Γ σ.h ρ q ∨ Z' q) hr fun q _ hno => ⟨rfl, ?_⟩
        rintro (hO | hz')
        · rcases hO' q hO with h | rfl
          · exact hno (.inl h)
          · exact hno (.inr (has _ hb))
        · exact hno (.inr hz')
      | _ => exact hr
    refine ⟨T, (List.range ss.length).map g, hrl, fun i r s hr hs => ?_, fun i j q ri rj hri hrj hqi hqj => ?_, fun r hr q hq => (hgz r hr q hq).1, ?_⟩
    · obtain ⟨hi, rfl⟩ := hget i r hr
      exact (hg' i hi s hs).1
    · obtain ⟨hi, rfl⟩ := hget i ri hri
      obtain ⟨hj, rfl⟩ := hget j rj hrj
      exact hap i j q ((hg' i hi _ (List.getElem?_eq_getElem hi)).2.1 q hqi) ((hg' j hj _ (List.getElem?_eq_getElem hj)).2.1 q hqj)
    · refine ⟨I.dfr, I.size, I.frm, fun t lv h => hLb (asT_get ht h) (f1 t lv h) (I.tmp t lv h), fun k e hk => ?_, fun k e q hk hq => ?_, fun k k' e e' q hk hk' hq hq' => ?_, I.out, fun k u hu => ?_⟩
      · rw [lookup_ins] at hk
        by_cases h : k = d
        · subst h
          rw [if_pos rfl] at hk; cases hk
          refine ⟨hz, cur.toList.take (ss.length * n), vals, ?_, fun i r hi => ?_⟩
          · rw [upd_at]
            exact ⟨by rw [hrl, List.length_take, Array.length_toList]; exact Nat.min_eq_left hmul, .inr ⟨b, c, cur, by rw [hrl], Nat.zero_le _, hg, by rw [hrl]; exact hc, hcm, hcs, by rw [hrl]⟩⟩
          · obtain ⟨hi', rfl⟩ := hget i r hi
            obtain ⟨g1, g2, g3⟩ := hg' i hi' _ (List.getElem?_eq_getElem hi')
            refine ⟨g3.kp (fun q _ hno => ⟨rfl, fun h => hno (hO' q h)⟩), hsz i hi', fun j u hu => ?_⟩
            have h3 := hcl i hi' j u hu
            have hjn : j < n := by
              have h4 := hsz i hi'
              have := (Array.getElem?_eq_some_iff.1 hu).1
              omega
            have hlt2 : i * n + j < ss.length * n := by
              have : (i + 1) * n ≤ ss.length * n := Nat.mul_le_mul_right n hi'
              rw [Nat.add_mul, Nat.one_mul] at this
              omega
            rw [List.getElem?_take, if_pos hlt2, Array.getElem?_toList]; exact h3
        · rw [if_neg h] at hk
          have hE := I.ent k e hk
          have hA := asH_get hh hk
          have hm := f2 k e hk
          cases e with
          | box cells =>
            obtain ⟨b', T', cur', q1, q2, q3, q4⟩ := hE
            refine ⟨b', T', cur', by rw [upd_ne _ _ h]; exact q1, q2, q3, fun j lv u hj hu => ⟨?_, (q4 j lv u hj hu).2⟩⟩
            have hmem := List.mem_of_getElem? hj
            have hml : lv.mentions d = false := by
              have := hm
              simp only [Ent.mentions, List.any_eq_false] at this
              simpa using this lv hmem
            exact hLb (hA lv hmem) hml (q4 j lv u hj hu).1
          | row sz T' l' =>
            obtain ⟨hz', xs, vals', hown, hel'⟩ := hE
            refine ⟨hz', xs, vals', by rw [upd_ne _ _ h]; exact hown, fun i s hi => ⟨?_, (hel' i s hi).2⟩⟩
            have hmem := List.mem_of_getElem? hi
            obtain ⟨a1, a2⟩ := hA s hmem
            refine Zd.rep a1 (hel' i s hi).1 fun q hq hO => ?_
            rcases hO' q hO with h | rfl
            · exact (Rep.zn hq (hel' i s hi).1).2 h
            · exact a2 _ hb hq
          | map kk es =>
            obtain ⟨r, en, cl, q1, q2, q3⟩ := hE
            exact ⟨r, en, cl, by rw [upd_ne _ _ h]; exact q1, q2, q3⟩
          | rowl T' cells =>
            obtain ⟨xs, hown, q4⟩ := hE
            refine ⟨xs, by rw [upd_ne _ _ h]; exact hown, fun j lv u hj hu => ⟨?_, (q4 j lv u hj hu).2⟩⟩
            have hmem := List.mem_of_getElem? hj
            have hml : lv.mentions d = false := by
              have := hm
              simp only [Ent.mentions, List.any_eq_false] at this
              simpa using this lv hmem
            exact hLb (hA lv hmem) hml (q4 j lv u hj hu).1
      · rw [lookup_ins] at hk
        by_cases h : k = d
        · subst h
          rw [upd_at] at hq
          simp [blk] at hq; subst hq
          exact ⟨hM _ hb, (hZ _ hb).1⟩
        · rw [if_neg h] at hk; rw [upd_ne _ _ h] at hq
          exact I.new k e q hk hq
      · rw [lookup_ins] at hk hk'
        by_cases h : k = d
        · subst h
          rw [upd_at] at hq
          simp [blk] at hq; subst hq
          by_cases h' : k' = k
          · exact h'.symm
          · rw [if_neg h'] at hk'; rw [upd_ne _ _ h'] at hq'
            exact absurd (.inr ⟨k', e', hk', hq'⟩) (hZ _ hb).2
        · rw [if_neg h] at hk; rw [upd_ne _ _ h] at hq
          by_cases h' : k' = d
          · subst h'
            rw [upd_at] at hq'
            simp [blk] at hq'; subst hq'
            exact absurd (.inr ⟨k, e, hk, hq⟩) (hZ _ hb).2
          · rw [if_neg h'] at hk'; rw [upd_ne _ _ h'] at hq'
            exact I.sep k k' e e' q hk hk' hq hq'
      · by_cases h : k = d
        · subst h; rw [hi] at hu; cases hu
        · rw [upd_ne _ _ h]; exact I.inn k u hu
end
def rmT (k : Nat) (t : List (Nat × LV)) : List (Nat × LV) := t.filter fun p => p.1 != k
theorem rmT_lookup {k k' : Nat} {lv : LV} : ∀ {t : List (Nat × LV)}, (rmT k t).lookup k' = some lv → t.lookup k' = some lv ∧ k' ≠ k
  | [], h => by simp [rmT] at h
  | (k1, e1) :: l, h => by
    by_cases h1 : k1 = k
    · subst h1
      have e : rmT k1 ((k1, e1) :: l) = rmT k1 l := by simp [rmT]
      rw [e] at h
      obtain ⟨h2, h3⟩ := rmT_lookup h
      refine ⟨?_, h3⟩
      rw [List.lookup_cons]
      have : (k' == k1) = false := by simpa using h3
      simp only [this]; exact h2
    · have e : rmT k ((k1, e1) :: l) = (k1, e1) :: rmT k l := by simp [rmT, h1]
      rw [e, List.lookup_cons] at h
      rw [List.lookup_cons]
      cases hk : (k' == k1) with
      | true => simp only [hk] at h ⊢; exact ⟨h, fun hh => h1 ((by simpa using hk : k' = k1).symm.trans hh)⟩
      | false => simp only [hk] at h ⊢; exact rmT_lookup h
structure Otr (Z : Nat → Prop) (rs ss : List SV) : Prop where
  len : rs.length = ss.length
  gd : ∀ (i : Nat) (r s : SV), rs[i]? = some r → ss[i]? = some s → Gd r s
  ap : ∀ (i j b : Nat) (ri rj : SV), rs[i]? = some ri → rs[j]? = some rj → Zn b ri → Zn b rj → i = j
  zn : ∀ r ∈ rs, ∀ b, Zn b r → Z b
theorem Otr.cps {Z : Nat → Prop} {rs ss : List SV} {w0 : World} (h : Otr Z rs ss) (hz : ∀ b, Z b → w0.heap.size ≤ b) : Cps w0 rs ss := ⟨h.len, h.gd, h.ap, fun r hr b hb => hz b (h.zn r hr b hb)⟩
theorem ok_otr {Γ : Ctx} {code : Code} {t : List (Nat × LV)} {h : List (Nat × Ent)} {Q : Exit → St → Prop} {n : Nat} {Z : Nat → Prop} {ss : List SV} {v : Value} (k0 d : Nat) (hk0 : t.lookup k0 = some (.sv (.tr Z (.sl n ss) v))) (h0 : ss ≠ []) (hM : ∀ b, Z b → Γ.w0.heap.size ≤ b ∨ Γ.M b)
    (hf : St.free ⟨rmT k0 t, h⟩ d = true) (hi : Γ.inn d = none) (ht : AsT Z (rmT k0 t)) (hh : AsH Z h) (hok : ∀ T rs, Otr Z rs ss → Ok Γ code ⟨(k0, .own d) :: rmT k0 t, ins d (.row n T rs) h⟩ Q) : Ok Γ code ⟨t, h⟩ Q := by
  rintro a w ⟨ρ, I⟩
  have hX : Rep w (Own Γ h ρ) (.tr Z (.sl n ss) v) (a.tmps.getD k0 undef) := I.tmp k0 _ hk0
  have I1 : Iv Γ ⟨rmT k0 t, h⟩ ρ a w := I.sub (fun t lv h => (rmT_lookup h).1) (fun _ _ h => h)
  generalize hu : a.tmps.getD k0 undef = u at hX
  cases hX with
  | tr _ _ _ hT hZ =>
    obtain ⟨T, rs, h1, h2, h3, h4, J⟩ := I1.otr h0 hT hZ hM hf hi ht hh
    refine hok T rs ⟨h1, h2, h3, h4⟩ a w ⟨_, J.dfr, J.size, J.frm, fun t lv h => ?_, J.ent, J.new, J.sep, J.out, J.inn⟩
    rw [List.lookup_cons] at h
    cases hq : (t == k0) with
    | true =>
      simp only [hq, Option.some.injEq] at h
      subst h
      have : t = k0 := by simpa using hq
      subst this
      show _ = upd ρ d _ d
      rw [upd_at, hu]
    | false => simp only [hq] at h; exact J.tmp t lv h
theorem ok_otrb {Γ : Ctx} {code : Code} {t : List (Nat × LV)} {h : List (Nat × Ent)} {Q : Exit → St → Prop} {n : Nat} {Z : Nat → Prop} {ss : List SV} {v : Value} {cells : List LV} (kb j d : Nat) (hkb : h.lookup kb = some (.box cells)) (hj : cells[j]? = some (.sv (.tr Z (.sl n ss) v))) (h0 : ss ≠ []) (hM : ∀ b, Z b → Γ.w0.heap.size ≤ b ∨ Γ.M b)
    (hd : d ≠ kb) (hf : St.free ⟨t, ins kb (.box (cells.set j .dead)) h⟩ d = true) (hi : Γ.inn d = none) (ht : AsT Z t) (hh : AsH Z (ins kb (.box (cells.set j .dead)) h))
    (hok : ∀ T rs, Otr Z rs ss → Ok Γ code ⟨t, ins kb (.box (cells.set j (.own d))) (ins d (.row n T rs) (ins kb (.box (cells.set j .dead)) h))⟩ Q) : Ok Γ code ⟨t, h⟩ Q := by
  rintro a w ⟨ρ, I⟩
  obtain ⟨b, T0, cur, q1, q2, q3, q4⟩ := I.ent kb _ hkb
  have hjl := (List.getElem?_eq_some_iff.1 hj).1
  have hcj : cur[j]? = some (cur[j]'(by omega)) := Array.getElem?_eq_getElem (by omega)
  have hX := (q4 j _ _ hj hcj).1
  have hX1 := (q4 j _ _ hj hcj).2
  have I1 : Iv Γ ⟨t, ins kb (.box (cells.set j .dead)) h⟩ ρ a w := I.conv hkb fun O hE => by
    obtain ⟨b', T', cur', p1, p2, p3, p4⟩ := hE
    refine ⟨b', T', cur', p1, p2, by rw [p3, List.length_set], fun i lv u hi' hu => ?_⟩
    rw [List.getElem?_set] at hi'
    split at hi'
    · rename_i e
      cases hi'
      subst e
      exact ⟨trivial, (p4 j _ u hj hu).2⟩
    · exact p4 i lv u hi' hu
  have hOs : ∀ q, Own Γ (ins kb (.box (cells.set j .dead)) h) ρ q → Own Γ h ρ q := by
    rintro q (hO | ⟨k1, e1, hk1, hb1⟩)
    · exact .inl hO
    · rw [lookup_ins] at hk1
      by_cases hc : k1 = kb
      · subst hc; exact .inr ⟨k1, _, hkb, hb1⟩
      · rw [if_neg hc] at hk1; exact .inr ⟨k1, e1, hk1, hb1⟩
  generalize hu : (cur[j]'(by omega)) = u at hX hX1 hcj
  have hX' : Rep w (Own Γ h ρ) (.tr Z (.sl n ss) v) u := hX
  cases hX' with
  | tr _ _ _ hT hZ =>
    obtain ⟨T, rs, h1, h2, h3, h4, J⟩ := I1.otr h0 hT (fun q hq => ⟨(hZ q hq).1, fun h => (hZ q hq).2 (hOs q h)⟩) hM hf hi ht hh
    refine hok T rs ⟨h1, h2, h3, h4⟩ a w ⟨_, J.conv (k := kb) (e := .box (cells.set j .dead)) (by rw [lookup_ins, if_neg (fun e => hd e.symm), lookup_ins, if_pos rfl]) fun O hE => ?_⟩
    obtain ⟨b', T', cur', p1, p2, p3, p4⟩ := hE
    have hρ : upd ρ d v kb = ρ kb := upd_ne _ _ fun e => hd e.symm
    have hbb : b' = b := by
      rw [hρ, q1] at p1
      simp only [Value.pointer.injEq, Option.some.injEq, Addr.mk.injEq, and_true] at p1
      exact p1.symm
    subst hbb
    rw [q2] at p2
    cases p2
    refine ⟨b', _, cur, p1, q2, by rw [q3, List.length_set], fun i lv u' hi' hu' => ?_⟩
    rw [List.getElem?_set] at hi'
    split at hi'
    · rename_i e
      cases hi'
      subst e
      rw [hcj] at hu'
      cases hu'
      exact ⟨by show v = upd ρ d v d; rw [upd_at], hX1⟩
    · rename_i e
      exact p4 i lv u' (by rw [List.getElem?_set, if_neg e]; exact hi') hu'
def unav : LV → LV
  | .av _ s => .sv s
  | lv => lv
theorem le_unav {Γ : Ctx} {t : List (Nat × LV)} {h : List (Nat × Ent)} : Le Γ ⟨t.map fun p => (p.1, unav p.2), h⟩ ⟨t, h⟩ := by
  rintro a w ⟨ρ, I⟩
  refine ⟨ρ, I.dfr, I.size, I.frm, fun t' lv hl => ?_, I.ent, I.new, I.sep, I.out, I.inn⟩
  have key : ∀ (t : List (Nat × LV)), (t.map fun p => (p.1, unav p.2)).lookup t' = some lv → ∃ lv0, t.lookup t' = some lv0 ∧ lv = unav lv0 := by
    intro t
    induction t with
    | nil => intro h; simp at h
    | cons p t ih =>
      intro h
      rw [List.map_cons, List.lookup_cons] at h
      rw [List.lookup_cons]
      cases hq : (t' == p.1) with
      | true => simp only [hq, Option.some.injEq] at h ⊢; exact ⟨p.2, rfl, h.symm⟩
      | false => simp only [hq] at h ⊢; exact ih h
  obtain ⟨lv0, h0, rfl⟩ := key t hl
  have h1 := I.tmp t' lv0 h0
  cases lv0 with
  | av Z s => exact Rep.kp (O := fun b => Own Γ h ρ b ∨ Z b) (O' := Own Γ h ρ) h1 fun b _ hno => ⟨rfl, fun h => hno (.inl h)⟩
  | _ => exact h1
end Go.Abs

/- A struct put together of its first parts; the rest is zero. No condition. -/
namespace Go.Abs
open Go Go.RowKit Go.Eager
set_option linter.unusedVariables false
def ZL : List SV → List Value → Prop
  | [], [] => True
  | s :: ts, v :: zs => ((∀ w O, Rep w O s v) ∧ v.oneCell' = true) ∧ ZL ts zs
  | _, _ => False
theorem ZL.len : ∀ {ts : List SV} {zs : List Value}, ZL ts zs → ts.length = zs.length
  | [], [], _ => rfl
  | _ :: _, _ :: _, h => by simp [ZL.len h.2]
  | [], _ :: _, h => h.elim
  | _ :: _, [], h => h.elim
theorem ZL.at : ∀ {ts : List SV} {zs : List Value}, ZL ts zs → ∀ (i : Nat) (s : SV) (v : Value), ts[i]? = some s → zs[i]? = some v → (∀ w O, Rep w O s v) ∧ v.oneCell' = true
  | [], [], _, i, s, v, h, _ => by simp at h
  | s :: ts, v :: zs, h, 0, s', v', h1, h2 => by cases h1; cases h2; exact h.1
  | s :: ts, v :: zs, h, i + 1, s', v', h1, h2 => ZL.at h.2 i s' v' (by simpa using h1) (by simpa using h2)
  | [], _ :: _, h, _, _, _, _, _ => h.elim
  | _ :: _, [], h, _, _, _, _, _ => h.elim
theorem nil_sl (n : Nat) : (∀ w O, Rep w O (.sl n []) (.slice none 0 0)) ∧ (Value.slice none 0 0).oneCell' = true := ⟨fun _ _ => .nil n none 0, rfl⟩
theorem nil_tr (n : Nat) : (∀ w O, Rep w O (.tr (fun _ => False) (.sl n []) (.slice none 0 0)) (.slice none 0 0)) ∧ (Value.slice none 0 0).oneCell' = true := ⟨fun _ _ => .tr _ _ _ (.nil _ _ _ _) fun b hb => hb.elim, rfl⟩
theorem raw_z (k : IntKind) (n : Int) : (∀ w O, Rep w O (.raw (.int k n)) (.int k n)) ∧ (Value.int k n).oneCell' = true := ⟨fun _ _ => .raw _, rfl⟩
def BLz (P : Program) (S : Nat) (ss : List SV) (zs : List Value) : Prop := ∀ vs : List Value, ShL ss vs → P.built S (vs.zipIdx.map fun p => (p.2, p.1)) = some (vs ++ zs).toArray
section
variable {Γ : Ctx} {ops : Array Oper} {l : List (Oper × Nat)} {t : List (Nat × LV)} {h : List (Nat × Ent)} {K : St → Prop} {c d ty : Nat} {ps : String} {af : Array Edge} {x y : Operand}
theorem q_bldz {S : Nat} {parts : Array (Nat × Operand)} (ss ts : List SV) {zs : List Value} (hb : BLz Γ.P S ss zs) (hz : ZL ts zs) (hi : parts.toList.map (·.1) = List.range ss.length) (hx : parts.toList.map (fun p => St.ev ⟨t, h⟩ p.2) = ss.map LV.sv) (ha : ss.all shpOk = true)
    (hk : RunL Γ ops l ⟨(d, .sv (.agg (ss ++ ts))) :: t, h⟩ K) : RunL Γ ops ((⟨some d, .build S parts, ty, ps, af, none⟩, c + 2) :: l) ⟨t, h⟩ K := by
  refine run_x (ext := True) rfl (by omega) (fun _ => trivial) fun a w ρ I hd => ?_
  have hlen : parts.toList.length = ss.length := by have := congrArg List.length hx; simpa using this
  let vs := parts.toList.map fun p => a.eval p.2
  have hvl : vs.length = ss.length := by simp [vs]; simpa using hlen
  have hvs : ∀ (i : Nat) (s : SV) (v : Value), ss[i]? = some s → vs[i]? = some v → Rep w (Own Γ h ρ) s v := by
    intro i s v hs hv
    have h2 : (parts.toList.map fun p => St.ev ⟨t, h⟩ p.2)[i]? = some (.sv s) := by rw [hx, List.getElem?_map, hs]; rfl
    rw [List.getElem?_map] at h2
    simp only [vs, List.getElem?_map] at hv
    cases hp : parts.toList[i]? with
    | none => simp [hp] at h2
    | some p =>
      simp only [hp, Option.map_some, Option.some.injEq] at h2 hv
      subst hv
      have := I.ev p.2
      rw [h2] at this
      exact this
  have hsh := shL_of (vs := vs) hvl.symm hvs ha
  have hparts : (parts.map fun p => (p.1, a.eval p.2)).toList = vs.zipIdx.map fun p => (p.2, p.1) := by
    rw [Array.toList_map]
    apply List.ext_getElem?
    intro i
    simp only [vs, List.getElem?_map, List.getElem?_zipIdx]
    cases hp : parts.toList[i]? with
    | none => simp
    | some p =>
      have h3 : (parts.toList.map (·.1))[i]? = some p.1 := by rw [List.getElem?_map, hp]; rfl
      rw [hi] at h3
      obtain ⟨hlt, he⟩ := List.getElem?_eq_some_iff.1 h3
      simp only [List.getElem_range] at he
      simp [← he]
  have run : (execOp a.eval ⟨some d, .build S parts, ty, ps, af, none⟩).run Γ.P w = .ok (.value (.agg (vs ++ zs).toArray)) w := by
    have h4 := hb vs hsh
    rw [← hparts] at h4
    have := run_build (P := Γ.P) w S (parts.map fun p => (p.1, a.eval p.2)) _ h4
    simp [execOp, this]
  have hzl := hz.len
  have key : ∀ (j : Nat) (s : SV) (u : Value), (ss ++ ts)[j]? = some s → (vs ++ zs)[j]? = some u → Rep w (Own Γ h ρ) s u := by
    intro j s u hs hu
    rcases Nat.lt_or_ge j ss.length with hj | hj
    · rw [List.getElem?_append_left hj] at hs
      rw [List.getElem?_append_left (by omega)] at hu
      exact hvs j s u hs hu
    · rw [List.getElem?_append_right hj] at hs
      rw [List.getElem?_append_right (by omega), hvl] at hu
      exact (hz.at _ s u hs hu).1 w _
  unfold XOk oN
  rw [run]
  refine ⟨_, hk, ⟨ρ, I.put (d := some d) (by simpa [dstOk] using hd) (Rep.agg _ _ (by simp [hvl, hzl]) (fun j u hu => ?_) (fun j s u hs hu => key j s u hs (by simpa using hu)))⟩, fun _ => Ext.refl w⟩
  have hu' : (vs ++ zs)[j]? = some u := by simpa using hu
  rcases Nat.lt_or_ge j vs.length with hj | hj
  · rw [List.getElem?_append_left hj] at hu'
    have hs : ss[j]? = some (ss[j]'(by omega)) := List.getElem?_eq_getElem (by omega)
    have hr := hvs j _ u hs hu'
    exact hr.oneCell (shL_one hr (List.all_eq_true.1 ha _ (List.mem_of_getElem? hs)))
  · rw [List.getElem?_append_right hj] at hu'
    have hlt := (List.getElem?_eq_some_iff.1 hu').1
    have hs : ts[j - vs.length]? = some (ts[j - vs.length]'(by omega)) := List.getElem?_eq_getElem (by omega)
    exact (hz.at _ _ u hs hu').2
end
end Go.Abs

/- A row of ours, of copies, in a box's cell: read as a copy; a nil slice in a box's cell: a row of ours. Within a region: a row as a copy. No condition. -/
namespace Go.Abs
open Go Go.RowKit Go.Eager
set_option linter.unusedVariables false
set_option linter.unusedSimpArgs false
section
variable {Γ : Ctx} {σ : St} {ρ : Nat → Value} {a : Act} {w : World}
theorem Iv.convO (I : Iv Γ σ ρ a w) {k : Nat} {e e' : Ent} (hk : σ.h.lookup k = some e) (hE : ERep w (Own Γ σ.h ρ) ρ k e → ERep w (Own Γ σ.h ρ) ρ k e') : Iv Γ ⟨σ.t, ins k e' σ.h⟩ ρ a w := by
  have hO : ∀ b, Own Γ (ins k e' σ.h) ρ b → Own Γ σ.h ρ b := by
    rintro b (h | ⟨k1, e1, h1, hb⟩)
    · exact .inl h
    · rw [lookup_ins] at h1
      by_cases hkk : k1 = k
      · subst hkk; exact .inr ⟨k1, e, hk, hb⟩
      · rw [if_neg hkk] at h1; exact .inr ⟨k1, e1, h1, hb⟩
  have kp : Kp w (Own Γ σ.h ρ) w (Own Γ (ins k e' σ.h) ρ) := fun b _ hno => ⟨rfl, fun h => hno (hO b h)⟩
  have hl : ∀ k1 e1, (ins k e' σ.h).lookup k1 = some e1 → ∃ e2, σ.h.lookup k1 = some e2 := fun k1 e1 h1 => by
    rw [lookup_ins] at h1
    by_cases hkk : k1 = k
    · subst hkk; exact ⟨e, hk⟩
    · rw [if_neg hkk] at h1; exact ⟨e1, h1⟩
  refine ⟨I.dfr, I.size, I.frm, fun t lv h => (I.tmp t lv h).kp kp, fun k1 e1 h1 => ?_, fun k1 e1 b h1 hb => ?_, fun k1 k2 e1 e2 b h1 h2 hb1 hb2 => ?_, I.out, I.inn⟩
  · rw [lookup_ins] at h1
    by_cases hkk : k1 = k
    · subst hkk
      rw [if_pos rfl] at h1; cases h1
      exact (hE (I.ent k1 e hk)).step kp (fun _ _ => rfl) rfl fun _ _ _ _ _ _ h => h
    · rw [if_neg hkk] at h1
      exact (I.ent k1 e1 h1).step kp (fun _ _ => rfl) rfl fun _ _ _ _ _ _ h => h
  · obtain ⟨e2, h2⟩ := hl k1 e1 h1
    exact I.new k1 e2 b h2 hb
  · obtain ⟨e3, h3⟩ := hl k1 e1 h1
    obtain ⟨e4, h4⟩ := hl k2 e2 h2
    exact I.sep k1 k2 e3 e4 b h3 h4 hb1 hb2
theorem Iv.openb (I : Iv Γ σ ρ a w) {k i kn n T : Nat} {cells : List LV} (hk : σ.h.lookup k = some (.box cells)) (hc : cells[i]? = some (.sv (.raw (.slice none 0 0)))) (hn : 0 < n) (hf : σ.free kn = true) (hi : Γ.inn kn = none) :
    Iv Γ ⟨σ.t, ins k (.box (cells.set i (.own kn))) (ins kn (.row n T []) σ.h)⟩ (upd ρ kn (.slice none 0 0)) a w := by
  have J := I.begin (T := T) hn hf hi
  have hne : k ≠ kn := by
    rintro rfl
    obtain ⟨_, _, f3⟩ := free_spec hf
    rw [hk] at f3; cases f3
  refine J.conv (k := k) (e := .box cells) (by rw [lookup_ins, if_neg hne]; exact hk) fun O h => ?_
  obtain ⟨b', T', cur, q1, q2, q3, q4⟩ := h
  refine ⟨b', T', cur, q1, q2, by rw [q3, List.length_set], fun j lv u hj hu => ?_⟩
  rcases set_getG hj with ⟨rfl, rfl⟩ | ⟨_, h2⟩
  · have h3 := q4 j _ u hc hu
    have h4 : u = .slice none 0 0 := rep_raw' h3.1
    exact ⟨by show u = upd ρ kn _ kn; rw [upd_at, h4], h3.2⟩
  · exact q4 j lv u h2 hu
theorem le_openb {Γ : Ctx} {t : List (Nat × LV)} {h : List (Nat × Ent)} {c : List LV} (k i kn n T : Nat) (hk : h.lookup k = some (.box c)) (hc : c[i]? = some (.sv (.raw (.slice none 0 0)))) (hn : 0 < n) (hf : St.free ⟨t, h⟩ kn = true) (hi : Γ.inn kn = none) :
    Le Γ ⟨t, ins k (.box (c.set i (.own kn))) (ins kn (.row n T []) h)⟩ ⟨t, h⟩ := fun _ _ ⟨_, I⟩ => ⟨_, I.openb hk hc hn hf hi⟩
theorem treed_zone {t : List (Nat × LV)} {h : List (Nat × Ent)} (I : Iv Γ ⟨t, h⟩ ρ a w) {k n T : Nat} {rs : List SV} (hk : h.lookup k = some (.row n T rs)) (hzn : ∀ r ∈ rs, ∀ b, Zn b r → Γ.w0.heap.size ≤ b ∨ Γ.M b) :
    ∀ b, (blk (ρ k) = some b ∨ ∃ r ∈ rs, Zn b r) → (Γ.w0.heap.size ≤ b ∨ Γ.M b) ∧ b < w.heap.size ∧ ¬ Own Γ (dropH k h) ρ b := by
  rintro b (hb | ⟨r, hr, hb⟩)
  · refine ⟨(I.new k _ b hk hb).1, (I.new k _ b hk hb).2, ?_⟩
    rintro (hO | ⟨k1, e1, hk1, hb1⟩)
    · have := I.out b hO
      rcases (I.new k _ b hk hb).1 with h1 | h1
      · omega
      · exact this.2 h1
    · obtain ⟨h1, h2⟩ := dropH_lookup hk1
      exact h2 (I.sep k1 k e1 _ b h1 hk hb1 hb)
  · obtain ⟨_, xs, vals, _, hel⟩ := I.ent k _ hk
    obtain ⟨i, hi⟩ := List.getElem?_of_mem hr
    have h1 := Rep.zn hb (hel i r hi).1
    refine ⟨hzn r hr b hb, h1.1, ?_⟩
    rintro (hO | ⟨k1, e1, hk1, hb1⟩)
    · exact h1.2 (.inl hO)
    · exact h1.2 (.inr ⟨k1, e1, (dropH_lookup hk1).1, hb1⟩)
end
theorem ok_treedb {Γ : Ctx} {code : Code} {t : List (Nat × LV)} {h : List (Nat × Ent)} {Q : Exit → St → Prop} {k n T : Nat} {rs ss : List SV} {cells : List LV} (kb j : Nat) (hkb : (dropH k h).lookup kb = some (.box cells)) (hj : cells[j]? = some (.own k))
    (hk : h.lookup k = some (.row n T rs)) (hl : rs.length = ss.length) (hg : ∀ (i : Nat) (r s : SV), rs[i]? = some r → ss[i]? = some s → Gd r s)
    (hap : ∀ (i j b : Nat) (ri rj : SV), rs[i]? = some ri → rs[j]? = some rj → Zn b ri → Zn b rj → i = j) (hzn : ∀ r ∈ rs, ∀ b, Zn b r → Γ.w0.heap.size ≤ b ∨ Γ.M b)
    (hok : ∀ (Z : Nat → Prop) (v : Value), (∀ b, Z b → (Γ.w0.heap.size ≤ b ∨ Γ.M b)) → (∀ (k1 n1 T1 : Nat) (r1 : List SV), (dropH k h).lookup k1 = some (.row n1 T1 r1) → ∀ s ∈ r1, ∀ b, Zn b s → Z b → ∃ r ∈ rs, Zn b r) → (∀ (s1 : Nat) (r1 : SV), t.lookup s1 = some (.sv r1) → ∀ b, Zn b r1 → Z b → ∃ r ∈ rs, Zn b r) → (∀ (k1 : Nat) (c1 : List LV) (i1 : Nat) (r1 : SV), (dropH k h).lookup k1 = some (.box c1) → c1[i1]? = some (.sv r1) → ∀ b, Zn b r1 → Z b → ∃ r ∈ rs, Zn b r) → Ok Γ code ⟨t, ins kb (.box (cells.set j (.sv (.tr Z (.sl n ss) v)))) (dropH k h)⟩ Q) : Ok Γ code ⟨t, h⟩ Q := by
  rintro a w ⟨ρ, I⟩
  have hT := row_tree I hk hl hg hap
  have hZb := treed_zone I hk hzn
  have J : Iv Γ ⟨t, dropH k h⟩ ρ a w := I.sub (fun _ _ h => h) fun k e h => (dropH_lookup h).1
  have hno : ∀ b, blk (ρ k) = some b → Own Γ h ρ b := fun b hb => .inr ⟨k, _, hk, hb⟩
  refine hok (fun b => blk (ρ k) = some b ∨ ∃ r ∈ rs, Zn b r) (ρ k) (fun b hb => (hZb b hb).1) (fun k1 n1 T1 r1 h1 s hs b hb hz => ?_) (fun s1 r1 h1 b hb hz => ?_) (fun k1 c1 i1 r1 h1 hi1 b hb hz => ?_) a w ⟨ρ, J.convO hkb fun hE => ?_⟩
  · rcases hz with hz | hz
    · obtain ⟨i, hi⟩ := List.getElem?_of_mem hs
      obtain ⟨_, xs, vals, _, hel⟩ := I.ent k1 _ (dropH_lookup h1).1
      exact absurd (hno b hz) (Rep.zn hb (hel i s hi).1).2
    · exact hz
  · rcases hz with hz | hz
    · exact absurd (hno b hz) (Rep.zn hb (I.tmp s1 _ h1)).2
    · exact hz
  · rcases hz with hz | hz
    · obtain ⟨b', T', cur, p1, p2, p3, p4⟩ := I.ent k1 _ (dropH_lookup h1).1
      have hlt := (List.getElem?_eq_some_iff.1 hi1).1
      have hX := (p4 i1 _ _ hi1 (Array.getElem?_eq_getElem (by omega))).1
      exact absurd (hno b hz) (Rep.zn hb hX).2
    · exact hz
  · obtain ⟨b', T', cur, p1, p2, p3, p4⟩ := hE
    refine ⟨b', T', cur, p1, p2, by rw [p3, List.length_set], fun i lv u hi hu => ?_⟩
    rcases set_getG hi with ⟨rfl, rfl⟩ | ⟨_, h2⟩
    · have h3 := p4 i _ u hj hu
      have h4 : u = ρ k := h3.1
      subst h4
      exact ⟨.tr _ _ _ hT fun b hb => (hZb b hb).2, h3.2⟩
    · exact p4 i lv u h2 hu
section
variable {Γ : Ctx} {ops : Array Oper} {l : List (Oper × Nat)} {t : List (Nat × LV)} {h : List (Nat × Ent)} {K : St → Prop}
theorem run_treed {k n T : Nat} {rs ss : List SV} (hk : h.lookup k = some (.row n T rs)) (hl : rs.length = ss.length) (hg : ∀ (i : Nat) (r s : SV), rs[i]? = some r → ss[i]? = some s → Gd r s)
    (hap : ∀ (i j b : Nat) (ri rj : SV), rs[i]? = some ri → rs[j]? = some rj → Zn b ri → Zn b rj → i = j) (hzn : ∀ r ∈ rs, ∀ b, Zn b r → Γ.w0.heap.size ≤ b ∨ Γ.M b)
    (hok : ∀ (Z : Nat → Prop) (v : Value), (∀ b, Z b → Γ.w0.heap.size ≤ b ∨ Γ.M b) → RunL Γ ops l ⟨tdT k (.tr Z (.sl n ss) v) t, dropH k h⟩ K) : RunL Γ ops l ⟨t, h⟩ K := by
  rintro hd a w ⟨ρ, I⟩
  have hT := row_tree I hk hl hg hap
  have hZb := treed_zone I hk hzn
  refine hok (fun b => blk (ρ k) = some b ∨ ∃ r ∈ rs, Zn b r) (ρ k) (fun b hb => (hZb b hb).1) hd a w ⟨ρ, ?_⟩
  have J : Iv Γ ⟨t, dropH k h⟩ ρ a w := I.sub (fun _ _ h => h) fun k e h => (dropH_lookup h).1
  refine ⟨J.dfr, J.size, J.frm, ?_, J.ent, J.new, J.sep, J.out, J.inn⟩
  intro t' lv h'
  rcases tdT_lookup h' with h'' | ⟨h'', rfl⟩
  · exact J.tmp t' lv h''
  · have h1 : a.tmps.getD t' undef = ρ k := I.tmp t' _ h''
    show Rep w _ _ _
    rw [h1]
    exact .tr _ _ _ hT fun b hb => (hZb b hb).2
end
theorem ok_treed3 {Γ : Ctx} {code : Code} {t : List (Nat × LV)} {h : List (Nat × Ent)} {Q : Exit → St → Prop} {k n T : Nat} {rs ss : List SV}
    (hk : h.lookup k = some (.row n T rs)) (hl : rs.length = ss.length) (hg : ∀ (i : Nat) (r s : SV), rs[i]? = some r → ss[i]? = some s → Gd r s)
    (hap : ∀ (i j b : Nat) (ri rj : SV), rs[i]? = some ri → rs[j]? = some rj → Zn b ri → Zn b rj → i = j) (hzn : ∀ r ∈ rs, ∀ b, Zn b r → Γ.w0.heap.size ≤ b ∨ Γ.M b)
    (hok : ∀ (Z : Nat → Prop) (v : Value), (∀ b, Z b → (Γ.w0.heap.size ≤ b ∨ Γ.M b)) → (∀ (k1 n1 T1 : Nat) (r1 : List SV), (dropH k h).lookup k1 = some (.row n1 T1 r1) → ∀ s ∈ r1, ∀ b, Zn b s → Z b → ∃ r ∈ rs, Zn b r) → (∀ (s1 : Nat) (r1 : SV), t.lookup s1 = some (.sv r1) → ∀ b, Zn b r1 → Z b → ∃ r ∈ rs, Zn b r) → (∀ (k1 : Nat) (c1 : List LV) (i1 : Nat) (r1 : SV), (dropH k h).lookup k1 = some (.box c1) → c1[i1]? = some (.sv r1) → ∀ b, Zn b r1 → Z b → ∃ r ∈ rs, Zn b r) → Ok Γ code ⟨tdT k (.tr Z (.sl n ss) v) t, dropH k h⟩ Q) : Ok Γ code ⟨t, h⟩ Q := by
  rintro a w ⟨ρ, I⟩
  have hT := row_tree I hk hl hg hap
  have hZb := treed_zone I hk hzn
  have J : Iv Γ ⟨t, dropH k h⟩ ρ a w := I.sub (fun _ _ h => h) fun k e h => (dropH_lookup h).1
  have hno : ∀ b, blk (ρ k) = some b → Own Γ h ρ b := fun b hb => .inr ⟨k, _, hk, hb⟩
  refine hok (fun b => blk (ρ k) = some b ∨ ∃ r ∈ rs, Zn b r) (ρ k) (fun b hb => (hZb b hb).1) (fun k1 n1 T1 r1 h1 s hs b hb hz => ?_) (fun s1 r1 h1 b hb hz => ?_) (fun k1 c1 i1 r1 h1 hi1 b hb hz => ?_) a w ⟨ρ, J.dfr, J.size, J.frm, ?_, J.ent, J.new, J.sep, J.out, J.inn⟩
  · rcases hz with hz | hz
    · obtain ⟨i, hi⟩ := List.getElem?_of_mem hs
      obtain ⟨_, xs, vals, _, hel⟩ := I.ent k1 _ (dropH_lookup h1).1
      exact absurd (hno b hz) (Rep.zn hb (hel i s hi).1).2
    · exact hz
  · rcases hz with hz | hz
    · exact absurd (hno b hz) (Rep.zn hb (I.tmp s1 _ h1)).2
    · exact hz
  · rcases hz with hz | hz
    · obtain ⟨b', T', cur, p1, p2, p3, p4⟩ := I.ent k1 _ (dropH_lookup h1).1
      have hlt := (List.getElem?_eq_some_iff.1 hi1).1
      have hX := (p4 i1 _ _ hi1 (Array.getElem?_eq_getElem (by omega))).1
      exact absurd (hno b hz) (Rep.zn hb hX).2
    · exact hz
  · intro t' lv h'
    rcases tdT_lookup h' with h'' | ⟨h'', rfl⟩
    · exact J.tmp t' lv h''
    · have h1 : a.tmps.getD t' undef = ρ k := I.tmp t' _ h''
      show Rep w _ _ _
      rw [h1]
      exact .tr _ _ _ hT fun b hb => (hZb b hb).2
section
variable {Γ : Ctx} {ops : Array Oper} {l : List (Oper × Nat)} {t : List (Nat × LV)} {h : List (Nat × Ent)} {K : St → Prop} {c d ty : Nat} {ps : String} {af : Array Edge} {x y : Operand}
theorem q_bld1a {S : Nat} (vs us : List Value) (hx : St.ev ⟨t, h⟩ x = .sv (.agg (vs.map .raw))) (hb : Γ.P.built S [(0, .agg vs.toArray)] = some us.toArray) (h1 : us.all (·.oneCell') = true)
    (hk : RunL Γ ops l ⟨(d, .sv (.agg (us.map .raw))) :: t, h⟩ K) : RunL Γ ops ((⟨some d, .build S #[(0, x)], ty, ps, af, none⟩, c + 2) :: l) ⟨t, h⟩ K := by
  refine run_x (ext := True) rfl (by omega) (fun _ => trivial) fun a w ρ I hd => ?_
  have hX := I.ev x
  rw [hx] at hX
  have he : a.eval x = .agg vs.toArray := by
    obtain ⟨ws, e, hn⟩ := agg_inv hX
    rw [e]
    congr 1
    rw [e] at hX
    rw [List.length_map] at hn
    apply Array.ext
    · simp [hn]
    · intro i i1 i2
      have hi : i < vs.length := by omega
      cases hX with
      | agg _ _ _ _ hel =>
        have h3 := hel i (.raw vs[i]) ws[i] (by rw [List.getElem?_map, List.getElem?_eq_getElem hi]; rfl) (Array.getElem?_eq_getElem i1)
        rw [rep_raw' h3]; simp
  have run : (execOp a.eval ⟨some d, .build S #[(0, x)], ty, ps, af, none⟩).run Γ.P w = .ok (.value (.agg us.toArray)) w := by
    have := run_build (P := Γ.P) w S #[(0, a.eval x)] us.toArray (by rw [he]; exact hb)
    simp [execOp, this]
  unfold XOk oN
  rw [run]
  refine ⟨_, hk, ⟨ρ, I.put (d := some d) (by simpa [dstOk] using hd) (Rep.agg _ _ (by simp) (fun j u hu => ?_) (fun j s u hs hu => ?_))⟩, fun _ => Ext.refl w⟩
  · exact List.all_eq_true.1 h1 u (List.mem_of_getElem? (by simpa using hu))
  · rw [List.getElem?_map] at hs
    have hu' : us[j]? = some u := by simpa using hu
    rw [hu'] at hs
    simp at hs; subst hs; exact Rep.raw u
end
theorem le_fb1 {Γ : Ctx} {t : List (Nat × LV)} {h : List (Nat × Ent)} (k : Nat) (s : SV) (hk : h.lookup k = some (.box [.sv s])) : Le Γ ⟨fbT k s t, dropH k h⟩ ⟨t, h⟩ := by
  rintro a w ⟨ρ, I⟩
  have J : Iv Γ ⟨t, dropH k h⟩ ρ a w := I.sub (fun _ _ h => h) fun k e h => (dropH_lookup h).1
  have hv : ∀ b, ρ k = .pointer (some ⟨b, 0, none⟩) → Rep w (Own Γ (dropH k h) ρ) (.ptr s) (.pointer (some ⟨b, 0, none⟩)) := by
    intro b0 hb0
    obtain ⟨b, T, cur, hr, hcur, hsz, hc⟩ := I.ent k _ hk
    rw [hb0] at hr
    simp only [Value.pointer.injEq, Option.some.injEq, Addr.mk.injEq, and_true] at hr
    subst hr
    have hbk : blk (ρ k) = some b0 := by rw [hb0]; rfl
    have h0 : 0 < cur.size := by rw [hsz]; simp
    have hcu : cur[0]? = some (cur[0]'h0) := Array.getElem?_eq_getElem h0
    obtain ⟨h1, h2⟩ := hc 0 (.sv s) _ rfl hcu
    have hcells := oneCell_cells h2
    refine Rep.ptr s b0 0 (cur[0]'h0) ?_ (Rep.kp h1 (Own.sub fun k e h => (dropH_lookup h).1)) (by rw [hcells]; simp) ?_
    · rintro (hO | ⟨k1, e1, hk1, hb1⟩)
      · have h1 := I.out b0 hO
        rcases (I.new k _ b0 hk hbk).1 with h | h
        · omega
        · exact h1.2 h
      · obtain ⟨h1, h2⟩ := dropH_lookup hk1
        exact h2 (I.sep k1 k e1 _ b0 h1 hk hb1 hbk)
    · intro j u hu
      rw [hcells] at hu
      have hj : j = 0 := by
        have := (Array.getElem?_eq_some_iff.1 hu).1
        simp at this; exact this
      subst hj
      rw [cell_of_row w b0 (0 + 0) cur T (0, 0) hcur, Nat.zero_add, hcu]
      simpa using hu
  refine ⟨ρ, J.dfr, J.size, J.frm, ?_, J.ent, J.new, J.sep, J.out, J.inn⟩
  intro t' lv hl
  rcases fbT_lookup hl with h' | ⟨h', rfl⟩ | rfl
  · exact J.tmp t' lv h'
  · obtain ⟨b, e1, e2⟩ := I.tmp t' _ h'
    show Rep w _ _ _
    rw [e2]; exact hv b e1
  · exact trivial
section
variable {Γ : Ctx} {σ : St} {ρ : Nat → Value} {a : Act} {w : World}
theorem ok_callrb (I : Iv Γ σ ρ a w) {o : Oper} {f : FuncId} {fn : Func} {args : Array Operand} {ts : Array TypeId} {sa : List SV} {R : SV → Prop} {K : St → Prop}
    (ho : o.op = .call { callee := .value (.func f), args := args, argTypes := ts }) (hdn : dstOk Γ o = true) (hf : Γ.P.funcs[f]? = some fn) (hname : (fn.name == "runtime.NumGoroutine") = false) (hb : fn.body.isNone = false)
    (ha : args.toList.map σ.ev = sa.map LV.sv) (hc : PFnR Γ.P f sa R) (hk : ∀ r, R r → (∀ b, Zn b r → Γ.w0.heap.size ≤ b) → Apart σ.t σ.h r → (∀ (k : Nat) (c : List LV) (i : Nat) (s : SV) (b : Nat), σ.h.lookup k = some (.box c) → c[i]? = some (.sv s) → Zn b s → ¬ Zn b r) → K (σ.put o.dst (.sv r))) : XOk Γ a w o True K := by
  have hrun : (execOp a.eval o).run Γ.P w = .ok (.enter f (args.map a.eval)) w := by
    have hY : a.eval (.func f) = .func (.func f) #[] #[] := rfl
    simp [execOp, ho, resolve, hY, Deferred.ofValue, invoke, run_callFunc hf hname hb]
  have hsz : (args.map a.eval).size = sa.length := by have := congrArg List.length ha; simp at this; simp [this]
  unfold XOk oN
  rw [hrun]
  refine (hc w (Own Γ σ.h ρ) (args.map a.eval) (fun b hb => blk_lt I hb) hsz fun i s u hi' hu => ?_).mono ?_
  · have h3 : (args.toList.map σ.ev)[i]? = some (.sv s) := by rw [ha, List.getElem?_map, hi']; rfl
    rw [Array.getElem?_map] at hu
    rw [List.getElem?_map] at h3
    cases hx : args[i]? with
    | none => simp [hx] at hu
    | some x =>
      have hx' : args.toList[i]? = some x := by simpa using hx
      simp only [hx', Option.map_some, Option.some.injEq] at h3
      simp only [hx, Option.map_some, Option.some.injEq] at hu
      subst hu
      have := I.ev x
      rw [h3] at this
      exact this
  · rintro e w' ⟨v, r, he, hx, hR, hn, hv⟩
    exact ⟨v, he, _, hk r hR (fun b hb => Nat.le_trans I.frm.size (hn b hb)) (apart_of I hn) (fun k c i s b hk hi hb hb' => by
      obtain ⟨b', T', cur, p1, p2, p3, p4⟩ := I.ent k _ hk
      have hlt := (List.getElem?_eq_some_iff.1 hi).1
      have h1 := (Rep.zn hb (p4 i _ _ hi (Array.getElem?_eq_getElem (by omega))).1).1
      have := hn b hb'
      omega), ⟨ρ, (I.ext hx).put (dstOk_spec hdn) hv⟩, fun _ => hx⟩
end
section
variable {Γ : Ctx} {ops : Array Oper} {l : List (Oper × Nat)} {t : List (Nat × LV)} {h : List (Nat × Ent)} {K : St → Prop} {c d ty : Nat} {ps : String} {af : Array Edge} {x y : Operand}
theorem q_callrb {f : Nat} {args : Array Operand} {ts : Array Nat} {sa : List SV} {R : SV → Prop} (hc : PFnR Γ.P f sa R) (hcl : Calb Γ.P f) (ha : args.toList.map (St.ev ⟨t, h⟩) = sa.map LV.sv)
    (hk : ∀ r, R r → (∀ b, Zn b r → Γ.w0.heap.size ≤ b) → Apart t h r → (∀ (k : Nat) (c : List LV) (i : Nat) (s : SV) (b : Nat), h.lookup k = some (.box c) → c[i]? = some (.sv s) → Zn b s → ¬ Zn b r) → RunL Γ ops l ⟨(d, .sv r) :: t, h⟩ K) :
    RunL Γ ops ((⟨some d, .call { callee := .value (.func f), args := args, argTypes := ts }, ty, ps, af, none⟩, c + 2) :: l) ⟨t, h⟩ K :=
  let ⟨_, hf', hname, hb⟩ := hcl
  run_x (ext := True) rfl (by omega) (fun _ => trivial) fun _ _ _ I hd => ok_callrb I rfl hd hf' hname hb ha hc hk
end
theorem le_boxgd {Γ : Ctx} {t : List (Nat × LV)} {h : List (Nat × Ent)} {cells : List LV} {r s : SV} (k j : Nat) (hk : h.lookup k = some (.box cells)) (hj : cells[j]? = some (.sv r)) (g : Gd r s) : Le Γ ⟨t, ins k (.box (cells.set j (.sv s))) h⟩ ⟨t, h⟩ := by
  rintro a w ⟨ρ, I⟩
  refine ⟨ρ, I.conv hk fun O hE => ?_⟩
  obtain ⟨b', T', cur, p1, p2, p3, p4⟩ := hE
  refine ⟨b', T', cur, p1, p2, by rw [p3, List.length_set], fun i lv u hi hu => ?_⟩
  rcases set_getG hi with ⟨rfl, rfl⟩ | ⟨_, h2⟩
  · obtain ⟨q1, q2⟩ := p4 i _ u hj hu
    exact ⟨g.rep q1, q2⟩
  · exact p4 i lv u h2 hu
end Go.Abs

/- Marks in a struct of one row. No condition. -/
namespace Go.Abs
open Go Go.RowKit Go.Eager
set_option linter.unusedVariables false
theorem tree_raw {w : World} {Z : Nat → Prop} {u v : Value} (h : Tree w Z (.raw u) v) : v = u := by cases h; rfl
theorem mid_get {α : Type} {pre post : List α} {x : α} : (pre ++ x :: post)[pre.length]? = some x := by simp
theorem raws_of {w : World} {O : Nat → Prop} {Z : Nat → Prop} {s : SV} {v : Value} {pre post : List Value} {vs : Array Value} (hn : vs.size = (pre.map SV.raw ++ SV.tr Z s v :: post.map SV.raw).length)
    (h : ∀ (i : Nat) (r : SV) (u : Value), (pre.map SV.raw ++ SV.tr Z s v :: post.map SV.raw)[i]? = some r → vs[i]? = some u → Rep w O r u) : vs = (pre ++ v :: post).toArray := by
  apply Array.ext_getElem?
  intro i
  simp only [List.getElem?_toArray]
  have hl : (pre ++ v :: post).length = vs.size := by rw [hn]; simp
  cases hq : (pre ++ v :: post)[i]? with
  | none => rw [Array.getElem?_eq_none (by have := List.getElem?_eq_none_iff.1 hq; omega)]
  | some u =>
    have hlt := (List.getElem?_eq_some_iff.1 hq).1
    obtain ⟨u', hu'⟩ : ∃ u', vs[i]? = some u' := ⟨_, Array.getElem?_eq_getElem (by omega)⟩
    rw [hu']
    congr 1
    rcases Nat.lt_trichotomy i pre.length with h1 | h1 | h1
    · rw [List.getElem?_append_left h1] at hq
      exact rep_raw' (h i (.raw u) u' (by rw [List.getElem?_append_left (by simpa using h1), List.getElem?_map, hq]; rfl) hu')
    · subst h1
      rw [mid_get] at hq
      cases hq
      have := h pre.length (.tr Z s v) u' (by simp) hu'
      cases this
      rfl
    · obtain ⟨j, rfl⟩ : ∃ j, i = pre.length + 1 + j := ⟨i - (pre.length + 1), by omega⟩
      rw [List.getElem?_append_right (by omega), show pre.length + 1 + j - pre.length = j + 1 by omega, List.getElem?_cons_succ] at hq
      exact rep_raw' (h _ (.raw u) u' (by rw [List.getElem?_append_right (by simp; omega), List.length_map, show pre.length + 1 + j - pre.length = j + 1 by omega, List.getElem?_cons_succ, List.getElem?_map, hq]; rfl) hu')
def MkCs (Z : Nat → Prop) (s s' : SV) (v : Value) : List LV → List LV → Prop
  | [], [] => True
  | x :: l, x' :: l' => MkL Z s s' v x x' ∧ MkCs Z s s' v l l'
  | _, _ => False
theorem MkCs.get {Z : Nat → Prop} {s s' : SV} {v : Value} : ∀ {l l' : List LV}, MkCs Z s s' v l l' → l'.length = l.length ∧ ∀ (i : Nat) (x x' : LV), l[i]? = some x → l'[i]? = some x' → MkL Z s s' v x x'
  | [], [], _ => ⟨rfl, fun i x x' h _ => by simp at h⟩
  | x :: l, x' :: l', h => ⟨by simp [(MkCs.get h.2).1], fun i y y' hy hy' => by
    cases i with
    | zero => cases hy; cases hy'; exact h.1
    | succ i => exact (MkCs.get h.2).2 i y y' (by simpa using hy) (by simpa using hy')⟩
  | [], _ :: _, h => h.elim
  | _ :: _, [], h => h.elim
theorem MkCs.box {Z : Nat → Prop} {s s' : SV} {v : Value} {l l' : List LV} (h : MkCs Z s s' v l l') : MkE Z s s' v (.box l) (.box l') := .box h.get.1 h.get.2
section
variable {Γ : Ctx} {ops : Array Oper} {l : List (Oper × Nat)} {t : List (Nat × LV)} {h : List (Nat × Ent)} {K : St → Prop} {c d ty : Nat} {ps : String} {af : Array Edge} {x y : Operand}
theorem q_mark1 {f : Nat} {ts : Array Nat} {Z : Nat → Prop} {s : SV} {v : Value} (pre post : List Value) {k : Int} {R : Int → SV → Prop} (hc : MarkC Γ.P f (.agg (pre.map .raw ++ s :: post.map .raw)) k R) (hcl : Calb Γ.P f)
    (hx : St.ev ⟨t, h⟩ x = .sv (.agg (pre.map .raw ++ .tr Z s v :: post.map .raw))) (hy : St.ev ⟨t, h⟩ y = .sv (.raw (.int .i64 k))) (hM : ∀ b, Z b → Γ.w0.heap.size ≤ b ∨ Γ.M b)
    (hR : ∀ k' s'', R k' s'' → ∃ (pre' : List Value) (s' : SV) (post' : List Value), s'' = .agg (pre'.map .raw ++ s' :: post'.map .raw) ∧ pre'.length = pre.length ∧ post'.length = post.length)
    (t' : SV → List (Nat × LV)) (h' : SV → List (Nat × Ent)) (ht : ∀ s', MkT Z s s' v t (t' s')) (hh : ∀ s', MkH Z s s' v h (h' s'))
    (hk : ∀ k' s', R k' (.agg (pre.map .raw ++ s' :: post.map .raw)) → RunL Γ ops l ⟨(d, .sv (.raw (.int .i64 k'))) :: t' s', h' s'⟩ K) :
    RunL Γ ops ((⟨some d, .call { callee := .value (.func f), args := #[x, y], argTypes := ts }, ty, ps, af, none⟩, 2) :: l) ⟨t, h⟩ K := by
  obtain ⟨fn, hf', hname, hb⟩ := hcl
  refine run_x (ext := False) rfl (by omega) (fun h => (h rfl).elim) fun a w ρ I hd => ?_
  have hX := I.ev x
  rw [hx] at hX
  have hY : a.eval y = .int .i64 k := ev_raw I hy
  have hrun : (execOp a.eval ⟨some d, .call { callee := .value (.func f), args := #[x, y], argTypes := ts }, ty, ps, af, none⟩).run Γ.P w = .ok (.enter f #[a.eval x, .int .i64 k]) w := by
    have hF : a.eval (.func f) = .func (.func f) #[] #[] := rfl
    simp [execOp, resolve, hF, Deferred.ofValue, invoke, run_callFunc hf' hname hb, hY]
  unfold XOk oN
  rw [hrun]
  generalize a.eval x = u at hX hrun
  cases hX with
  | agg _ vs hn h1 h2 =>
    have hvs := raws_of hn h2
    subst hvs
    have hmid : (pre ++ v :: post).toArray[pre.length]? = some v := by simp
    have hr := h2 pre.length (.tr Z s v) v (by simp) hmid
    cases hr with
    | tr _ _ _ hT hZ =>
      have hT0 : Tree w Z (.agg (pre.map .raw ++ s :: post.map .raw)) (.agg (pre ++ v :: post).toArray) := by
        refine .agg Z _ _ (fun i d => i = pre.length ∧ Z d) (by simp) h1 (fun i r u hr hu => ?_) (fun i d h => h.2) (fun i j d hi hj => by rw [hi.1, hj.1])
        simp only [List.getElem?_toArray] at hu
        rcases Nat.lt_trichotomy i pre.length with h1 | h1 | h1
        · rw [List.getElem?_append_left h1] at hu
          rw [List.getElem?_append_left (by simpa using h1), List.getElem?_map, hu] at hr
          cases hr; exact .raw _ _
        · subst h1
          rw [mid_get] at hu
          cases hu
          have := mid_get (pre := pre.map SV.raw) (post := post.map SV.raw) (x := s)
          rw [List.length_map] at this
          rw [this] at hr
          cases hr
          exact hT.mono fun b hb => ⟨rfl, hb⟩
        · obtain ⟨j, rfl⟩ : ∃ j, i = pre.length + 1 + j := ⟨i - (pre.length + 1), by omega⟩
          rw [List.getElem?_append_right (by omega), show pre.length + 1 + j - pre.length = j + 1 by omega, List.getElem?_cons_succ] at hu
          rw [List.getElem?_append_right (by simp; omega), List.length_map, show pre.length + 1 + j - pre.length = j + 1 by omega, List.getElem?_cons_succ, List.getElem?_map, hu] at hr
          cases hr; exact .raw _ _
      refine (hc w Z _ hT0 fun b hb => (hZ b hb).1).mono ?_
      rintro e w' ⟨k', s'', he, hR', hC, hT'⟩
      obtain ⟨pre', s', post', rfl, e1, e2⟩ := hR k' s'' hR'
      generalize hW : (pre ++ v :: post).toArray = W at hT'
      cases hT' with
      | agg _ _ _ z hn' h1' h2' hzn' hap' =>
        subst hW
        have ep : pre' = pre := by
          apply List.ext_getElem?
          intro i
          rcases Nat.lt_or_ge i pre.length with hi | hi
          · have a1 : pre'[i]? = some (pre'[i]'(by omega)) := List.getElem?_eq_getElem (by omega)
            have a2 : pre[i]? = some pre[i] := List.getElem?_eq_getElem hi
            have a3 := h2' i (.raw (pre'[i]'(by omega))) pre[i] (by rw [List.getElem?_append_left (by simp; omega), List.getElem?_map, a1]; rfl) (by simp only [List.getElem?_toArray]; rw [List.getElem?_append_left hi, a2])
            rw [a1, a2, tree_raw a3]
          · rw [List.getElem?_eq_none (by omega), List.getElem?_eq_none hi]
        subst ep
        have eq_ : post' = post := by
          apply List.ext_getElem?
          intro j
          rcases Nat.lt_or_ge j post.length with hi | hi
          · have a1 : post'[j]? = some (post'[j]'(by omega)) := List.getElem?_eq_getElem (by omega)
            have a2 : post[j]? = some post[j] := List.getElem?_eq_getElem hi
            have a3 := h2' (pre'.length + 1 + j) (.raw (post'[j]'(by omega))) post[j]
              (by rw [List.getElem?_append_right (by simp; omega), List.length_map, show pre'.length + 1 + j - pre'.length = j + 1 by omega, List.getElem?_cons_succ, List.getElem?_map, a1]; rfl)
              (by simp only [List.getElem?_toArray]; rw [List.getElem?_append_right (by omega), show pre'.length + 1 + j - pre'.length = j + 1 by omega, List.getElem?_cons_succ, a2])
            rw [a1, a2, tree_raw a3]
          · rw [List.getElem?_eq_none (by omega), List.getElem?_eq_none hi]
        subst eq_
        have hTs : Tree w' Z s' v := (h2' pre'.length s' v (by simp) hmid).mono fun b hb => hzn' _ b hb
        exact ⟨_, he, _, hk k' s' hR', ⟨ρ, (I.mark hC hTs hZ hM (ht s') (hh s')).put (d := some d) (by simpa [dstOk] using hd) (Rep.raw _)⟩, fun h => h.elim⟩
end
end Go.Abs

/- Empty slices that are no row of ours: made, appended nothing to, an element put in. No condition. -/
namespace Go.Abs
open Go Go.RowKit Go.Eager Go.Shelf
set_option linter.unusedVariables false
set_option linter.unusedSimpArgs false
def Hd0 (a : Option Addr) : Prop := a = none ∨ ∃ b, a = some ⟨b, 0, none⟩
section
variable {Γ : Ctx} {ops : Array Oper} {l : List (Oper × Nat)} {t : List (Nat × LV)} {h : List (Nat × Ent)} {K : St → Prop} {c d ty : Nat} {ps : String} {af : Array Edge} {x y z : Operand}
theorem q_lit0e {S e n : Nat} (he : elOf Γ.P S = some (e, n))
    (hk : ∀ b, RunL Γ ops l ⟨(d, .sv (.raw (.slice (some ⟨b, 0, none⟩) 0 0))) :: t, h⟩ K) : RunL Γ ops ((⟨some d, .buildSlice S 0 #[], ty, ps, af, none⟩, c + 2) :: l) ⟨t, h⟩ K := by
  refine run_x (ext := True) rfl (by omega) (fun _ => trivial) fun a w ρ I hd => ?_
  obtain ⟨hu, hs⟩ := elOf_spec he
  have run : (execOp a.eval ⟨some d, .buildSlice S 0 #[], ty, ps, af, none⟩).run Γ.P w = .ok (.value (.slice (some ⟨w.heap.size, 0, none⟩) 0 0)) (w.alloc (.cells #[] e)) := by
    have hf' : Instr.fill (fun i => some (i * n, n)) #[] [] = some #[] := rfl
    simp [execOp, Instr.buildSlice, run_underlying hu, run_sizeOf hs, newRow, hf', show Array.range 0 = #[] from rfl]
  unfold XOk oN
  rw [run]
  have hx := alloc_ext w (.cells #[] e)
  exact ⟨_, hk _, ⟨ρ, (I.ext hx).put (d := some d) (by simpa [dstOk] using hd) (Rep.raw _)⟩, fun _ => hx⟩
theorem q_appEr {S e n : Nat} {p : Option Addr} {cap : Nat} (he : elOf Γ.P S = some (e, n)) (hx : St.ev ⟨t, h⟩ x = .sv (.raw (.slice p 0 cap))) (hy : St.ev ⟨t, h⟩ y = .sv (.sl n []))
    (hk : RunL Γ ops l ⟨(d, .sv (.raw (.slice p 0 cap))) :: t, h⟩ K) :
    RunL Γ ops ((⟨some d, .call { callee := .builtin .append, args := #[x, y], argTypes := #[S, S] }, ty, ps, af, none⟩, 2) :: l) ⟨t, h⟩ K := by
  refine run_x (ext := False) rfl (by omega) (fun h => (h rfl).elim) fun a w ρ I hd => ?_
  have hX : a.eval x = .slice p 0 cap := ev_raw I hx
  have hY := I.ev y
  rw [hy] at hY
  obtain ⟨hu, hs⟩ := elOf_spec he
  have hS : (sizeOf e).run Γ.P w = .ok n w := by
    unfold szOf at hs
    cases hi : Γ.P.info? e with
    | none => simp [hi] at hs
    | some it => simp [hi] at hs; simp [sizeOf, typeInfo, hi, hs]
  have hU : (underlying S).run Γ.P w = .ok (.slice e) w := by simp [underlying, hu]
  obtain ⟨q, cc, hyv⟩ : ∃ q cc, a.eval y = .slice q 0 cc := by
    obtain ⟨q, m, cc, hv⟩ := rep_sl hY
    rw [hv] at hY
    cases hY with
    | nil => exact ⟨_, _, hv⟩
    | sl _ _ _ _ _ _ _ hl => simp at hl
  have run : (execOp a.eval ⟨some d, .call { callee := .builtin .append, args := #[x, y], argTypes := #[S, S] }, ty, ps, af, none⟩).run Γ.P w = .ok (.value (.slice p 0 cap)) w := by
    have happ : (Builtin.append_ #[S, S] ty #[.slice p 0 cap, .slice q 0 cc]).run Γ.P w = .ok (.slice p 0 cap) w := by
      unfold Builtin.append_
      cases p <;> cases q <;> simp [hU, hS, Builtin.lenOf, Builtin.firstCells, loadCells, loadCellsFrom, storeCells]
    simp [execOp, resolve, invoke, builtin, hX, hyv, happ]
  unfold XOk oN
  rw [run]
  exact ⟨_, hk, ⟨ρ, I.put (d := some d) (by simpa [dstOk] using hd) (Rep.raw _)⟩, fun _ => Ext.refl w⟩
end
section
variable {P : Program} {ρ : Ren}
def InsE (P : Program) (f s by_ : Nat) : Prop :=
  ∀ (w : World) (a : Option Addr) (vb vc : Nat) (cv : Array Value) (Tv : TypeId) (vs : List Value), Hd0 a → w.heap[vb]? = some (.cells cv Tv (0, 0)) → cv.toList.take s = vs → vs.length = s → (∀ u ∈ vs, u.oneCell' = true) →
    Calls P f #[.slice a 0 0, .int .i64 0, .slice (some ⟨vb, 0, none⟩) 1 vc] w fun e w' => ∃ v' T', e = .returned v' ∧ w'.ownsRow 0 T' s v' 1 vs ∧ w.grownBy w' none ∧ ∀ b, blk v' = some b → b < w'.heap.size ∧ w.heap.size ≤ b
theorem insE_of {s by_ : Nat} {z : Value} (L : InsL P ρ s by_ z) (hs : 0 < s) (hby : by_ ≤ 1048576) : InsE P (ρ.f 22) s by_ := by
  intro w a vb vc cv Tv vs ha hgv hvt hvl h1v
  obtain ⟨i0, hi0, hz0, hzs, hzb⟩ := info_parts L.i9
  have hnews : ∀ (j : Nat) (u : Value), vs[j]? = some u → w.cell? ((⟨vb, 0, none⟩ : Addr).add j) = some u := fun j u hj => by
    have hlt := (List.getElem?_eq_some_iff.1 hj).1
    rw [← hvt, List.getElem?_take, if_pos (by omega), Array.getElem?_toList] at hj
    rw [addr_add, cell_cells hgv, Nat.zero_add]; exact hj
  rcases ha with rfl | ⟨b, rfl⟩
  · obtain ⟨v', w', h2, h3, h4, h5⟩ := run_append_mine (P := P) w (ρ.t 24) 0 (ρ.t 9) i0 z s by_ L.t24 hi0 hz0 hzs hzb L.zs hs (.slice none 0 0) 0 [] (World.ownsRow_nil w 0 _ s) ⟨vb, 0, none⟩ 1 vc vs (by rw [Nat.one_mul]; exact hvl) hnews h1v (by unfold maxLen; omega) (by omega)
    refine (ins_end L none 0 0 vb vc w w' v' (fun ty => h2) (Nat.le_refl _) (.inl rfl) (fun _ => ⟨rfl, rfl⟩)).mono ?_
    rintro e w2 ⟨rfl, rfl⟩
    exact ⟨v', _, rfl, by simpa using h3, h4, fun b hb => ⟨(h5 b hb).1, (h5 b hb).2.elim id fun h => by cases h⟩⟩
  · subst hzs hzb
    have hr := fun ty => run_append_grow (P := P) w (ρ.t 24) ty (ρ.t 9) i0 z L.t24 hi0 hz0 ⟨b, 0, none⟩ 0 0 [] (by simp) (fun j v hj => by simp at hj) ⟨vb, 0, none⟩ 1 vc vs (by rw [Nat.one_mul]; exact hvl) hnews (by omega) (by omega) (growslice_fits (by omega) (by omega))
    have hge := grownCap_ge w (0 + 1) 0 (ρ.t 9)
    have hcm2 : grownCap w (0 + 1) 0 (ρ.t 9) ≤ maxLen := grownCap_le_maxLen w (0 + 1) 0 (ρ.t 9) (by unfold maxLen; omega)
    refine (ins_end L (some ⟨b, 0, none⟩) 0 0 vb vc w _ _ hr (Nat.le_refl _) (.inr ⟨b, rfl⟩) (fun h => by cases h)).mono ?_
    rintro e w2 ⟨rfl, rfl⟩
    refine ⟨_, ρ.t 9, rfl, ⟨by rw [Nat.one_mul]; exact hvl, .inr ⟨w.heap.size, _, _, rfl, Nat.zero_le _, heap_alloc_new w.drew _, hge, hcm2, ?_, ?_⟩⟩, ⟨rfl, rfl, rfl, by simp, fun k hk _ => heap_alloc_old w.drew _ hk⟩, fun b' hb => ?_⟩
    · simp only [Array.size_append, List.size_toArray, size_zeroCells, L.zs, List.length_nil, Nat.zero_add, hvl]
      have : i0.size + (grownCap w (0 + 1) 0 (ρ.t 9) - (0 + 1)) * i0.size = (1 + (grownCap w (0 + 1) 0 (ρ.t 9) - (0 + 1))) * i0.size := by rw [Nat.add_mul, Nat.one_mul]
      simp only [Nat.zero_add] at this hge ⊢
      rw [this]
      congr 1
      omega
    · simp only [Array.toList_append, List.nil_append, Nat.one_mul]
      rw [← hvl]
      exact List.take_left
    · simp [blk] at hb
      subst hb
      exact ⟨by simp, Nat.le_refl _⟩
end
section
variable {Γ : Ctx} {ops : Array Oper} {l : List (Oper × Nat)} {t : List (Nat × LV)} {h : List (Nat × Ent)} {K : St → Prop} {c d ty : Nat} {ps : String} {af : Array Edge} {x y z : Operand}
theorem q_insE {f k2 s T2 by_ : Nat} {ts : Array Nat} {p : Option Addr} {el : SV} (hc : InsE Γ.P f s by_) (hcl : Calb Γ.P f) (hp : Hd0 p) (hx : St.ev ⟨t, h⟩ x = .sv (.raw (.slice p 0 0))) (hy : St.ev ⟨t, h⟩ y = .sv (.raw (.int .i64 0))) (hz : St.ev ⟨t, h⟩ z = .own k2) (hk2 : h.lookup k2 = some (.row s T2 [el]))
    (h1e : (∃ c, el = .agg c) ∨ el.one = true) (hf : St.free ⟨t, h⟩ d = true) (hi : Γ.inn d = none)
    (hk : ∀ T', RunL Γ ops l ⟨(d, .own d) :: t, ins d (.row s T' [el]) h⟩ K) :
    RunL Γ ops ((⟨some d, .call { callee := .value (.func f), args := #[x, y, z], argTypes := ts }, ty, ps, af, none⟩, 2) :: l) ⟨t, h⟩ K := by
  obtain ⟨fn, hf', hname, hb⟩ := hcl
  refine run_x (ext := False) rfl (by omega) (fun h => (h rfl).elim) fun a w ρ I hd => ?_
  have hX : a.eval x = .slice p 0 0 := ev_raw I hx
  have hZ : a.eval z = ρ k2 := by have := I.ev z; rw [hz] at this; exact this
  have hY : a.eval y = .int .i64 0 := ev_raw I hy
  obtain ⟨f1, f2, f3⟩ := free_spec hf
  obtain ⟨hs0, xs2, vals2, hown2, hrep2⟩ := I.ent k2 _ hk2
  have hx2 := row_one hs0 hown2.1 hrep2 (fun q hq => by simp at hq; subst hq; exact h1e)
  obtain ⟨e1, e2, e3⟩ := hrep2 0 el rfl
  rcases hown2.2 with ⟨_, h⟩ | ⟨vb, vc, cv, hv2, _, hg2, hcap2, hcm2, hcs2, htk2⟩
  · simp at h
  · have hxl2 : xs2.length = s := by have := hown2.1; simpa using this
    have hrun : (execOp a.eval ⟨some d, .call { callee := .value (.func f), args := #[x, y, z], argTypes := ts }, ty, ps, af, none⟩).run Γ.P w = .ok (.enter f #[.slice p 0 0, .int .i64 0, .slice (some ⟨vb, 0, none⟩) 1 vc]) w := by
      have hF : a.eval (.func f) = .func (.func f) #[] #[] := rfl
      have hv2' : ρ k2 = .slice (some ⟨vb, 0, none⟩) 1 vc := hv2
      simp [execOp, resolve, hF, Deferred.ofValue, invoke, run_callFunc hf' hname hb, hX, hY, hZ, hv2']
    unfold XOk oN
    rw [hrun]
    refine (hc w p vb vc cv T2 xs2 hp hg2 (by rw [← htk2]; simp) hxl2 hx2).mono ?_
    rintro e w' ⟨v', T', he, hrow, hgr, hnew⟩
    have I2 : Iv Γ ⟨t, ins d (.row s T' []) h⟩ (upd ρ d (.slice none 0 0)) a w := I.begin (T := T') hs0 hf hi
    have hl2 : (ins d (.row s T' []) h).lookup d = some (.row s T' []) := by rw [lookup_ins, if_pos rfl]
    have hkp : Kp w (Own Γ h ρ) w' (Own Γ (ins d (.row s T' [el]) (ins d (.row s T' []) h)) (upd (upd ρ d (.slice none 0 0)) d v')) := by
      intro b hlt hno
      refine ⟨hgr.block b hlt (by simp), ?_⟩
      rintro (hO | ⟨k1, e1, hk1, hb1⟩)
      · exact hno (.inl hO)
      · rw [lookup_ins] at hk1
        by_cases hq : k1 = d
        · subst hq
          rw [upd_at] at hb1
          have := (hnew b hb1).2
          omega
        · rw [if_neg hq, lookup_ins, if_neg hq] at hk1
          rw [upd_ne _ _ hq, upd_ne _ _ hq] at hb1
          exact hno (.inr ⟨k1, e1, hk1, hb1⟩)
    have hins : ins d (.row s T' [el]) (ins d (.row s T' []) h) = ins d (.row s T' [el]) h := by
      have key : ∀ q : List (Nat × Ent), ins d (.row s T' [el]) (ins d (.row s T' []) q) = ins d (.row s T' [el]) q := by
        intro q
        induction q with
        | nil => simp [ins]
        | cons p q ih =>
          obtain ⟨k1, e1⟩ := p
          unfold ins
          by_cases hq : k1 = d
          · simp [hq, ins]
          · simp [hq, ins, ih]
      exact key h
    have I3 := I2.heap (t' := t) (k := d) (e := .row s T' [el]) (v' := v') (w' := w') (fun t lv h => .inl h)
      (.inr ⟨f1, fun k1 e1 h1 h2 => by rw [lookup_ins, if_neg h1] at h2; exact f2 k1 e1 h2⟩) ⟨hgr.os, hgr.tape, hgr.output, hgr.size⟩ (fun b hb hne2 => hgr.block b hb (by simp))
      (fun b hb => ⟨(hnew b hb).1, .inl (hnew b hb).2⟩) (fun v h => by rw [hi] at h; cases h)
      ⟨hs0, xs2, fun _ => vals2 0, by rw [upd_at]; exact hrow, fun j q hj => by
        cases j with
        | zero =>
          cases hj
          refine ⟨e1.kp hkp, e2, fun m u hu => ?_⟩
          exact e3 m u hu
        | succ j => simp at hj⟩
    rw [hins] at I3
    exact ⟨_, he, _, hk T', ⟨_, I3.put (d := some d) (lv := .own d) (v := v') (by simpa [dstOk] using hd) (upd_at _ _ _).symm⟩, fun h => h.elim⟩
end
end Go.Abs

/- Within a region: a copy that a slot and a box both hold, made a row of ours; nil elements as copies. No condition. -/
namespace Go.Abs
open Go Go.RowKit Go.Eager
set_option linter.unusedVariables false
set_option linter.unusedSimpArgs false
theorem run_otrsb {Γ : Ctx} {ops : Array Oper} {l : List (Oper × Nat)} {K : St → Prop} {t : List (Nat × LV)} {h : List (Nat × Ent)} {n : Nat} {Z : Nat → Prop} {ss : List SV} {v : Value} {cells : List LV} (k0 kb j d : Nat) (hk0 : t.lookup k0 = some (.sv (.tr Z (.sl n ss) v))) (hkb : h.lookup kb = some (.box cells)) (hj : cells[j]? = some (.sv (.tr Z (.sl n ss) v))) (h0 : ss ≠ []) (hM : ∀ b, Z b → Γ.w0.heap.size ≤ b ∨ Γ.M b)
    (hd : d ≠ kb) (hf : St.free ⟨rmT k0 t, ins kb (.box (cells.set j .dead)) h⟩ d = true) (hi : Γ.inn d = none) (ht : AsT Z (rmT k0 t)) (hh : AsH Z (ins kb (.box (cells.set j .dead)) h))
    (hok : ∀ T rs, Otr Z rs ss → RunL Γ ops l ⟨(k0, .own d) :: rmT k0 t, ins kb (.box (cells.set j (.own d))) (ins d (.row n T rs) (ins kb (.box (cells.set j .dead)) h))⟩ K) : RunL Γ ops l ⟨t, h⟩ K := by
  rintro hdst a w ⟨ρ, Iall⟩
  have hX0 : a.tmps.getD k0 undef = v := by
    have h1 : Rep w (Own Γ h ρ) (.tr Z (.sl n ss) v) (a.tmps.getD k0 undef) := Iall.tmp k0 _ hk0
    generalize a.tmps.getD k0 undef = u0 at h1
    cases h1; rfl
  have I : Iv Γ ⟨rmT k0 t, h⟩ ρ a w := Iall.sub (fun k lv hl => (rmT_lookup hl).1) (fun k e h => h)
  obtain ⟨b, T0, cur, q1, q2, q3, q4⟩ := I.ent kb _ hkb
  have hjl := (List.getElem?_eq_some_iff.1 hj).1
  have hcj : cur[j]? = some (cur[j]'(by omega)) := Array.getElem?_eq_getElem (by omega)
  have hX := (q4 j _ _ hj hcj).1
  have hX1 := (q4 j _ _ hj hcj).2
  have I1 : Iv Γ ⟨rmT k0 t, ins kb (.box (cells.set j .dead)) h⟩ ρ a w := I.conv hkb fun O hE => by
    obtain ⟨b', T', cur', p1, p2, p3, p4⟩ := hE
    refine ⟨b', T', cur', p1, p2, by rw [p3, List.length_set], fun i lv u hi' hu => ?_⟩
    rw [List.getElem?_set] at hi'
    split at hi'
    · rename_i e
      cases hi'
      subst e
      exact ⟨trivial, (p4 j _ u hj hu).2⟩
    · exact p4 i lv u hi' hu
  have hOs : ∀ q, Own Γ (ins kb (.box (cells.set j .dead)) h) ρ q → Own Γ h ρ q := by
    rintro q (hO | ⟨k1, e1, hk1, hb1⟩)
    · exact .inl hO
    · rw [lookup_ins] at hk1
      by_cases hc : k1 = kb
      · subst hc; exact .inr ⟨k1, _, hkb, hb1⟩
      · rw [if_neg hc] at hk1; exact .inr ⟨k1, e1, hk1, hb1⟩
  generalize hu : (cur[j]'(by omega)) = u at hX hX1 hcj
  have hX' : Rep w (Own Γ h ρ) (.tr Z (.sl n ss) v) u := hX
  cases hX' with
  | tr _ _ _ hT hZ =>
    obtain ⟨T, rs, h1, h2, h3, h4, J⟩ := I1.otr h0 hT (fun q hq => ⟨(hZ q hq).1, fun h => (hZ q hq).2 (hOs q h)⟩) hM hf hi ht hh
    have add : ∀ {h' : List (Nat × Ent)} {ρ' : Nat → Value}, ρ' d = v → Iv Γ ⟨rmT k0 t, h'⟩ ρ' a w → Iv Γ ⟨(k0, .own d) :: rmT k0 t, h'⟩ ρ' a w := fun {h'} {ρ'} hv I' => by
      refine ⟨I'.dfr, I'.size, I'.frm, fun t' lv hl => ?_, I'.ent, I'.new, I'.sep, I'.out, I'.inn⟩
      rw [List.lookup_cons] at hl
      cases hq : (t' == k0) with
      | true =>
        simp only [hq, Option.some.injEq] at hl
        subst hl
        have e : t' = k0 := by simpa using hq
        subst e
        show a.tmps.getD t' undef = ρ' d
        rw [hv, hX0]
      | false => simp only [hq] at hl; exact I'.tmp t' lv hl
    refine hok T rs ⟨h1, h2, h3, h4⟩ hdst a w ⟨_, add (upd_at _ _ _) <| J.conv (k := kb) (e := .box (cells.set j .dead)) (by rw [lookup_ins, if_neg (fun e => hd e.symm), lookup_ins, if_pos rfl]) fun O hE => ?_⟩
    obtain ⟨b', T', cur', p1, p2, p3, p4⟩ := hE
    have hρ : upd ρ d v kb = ρ kb := upd_ne _ _ fun e => hd e.symm
    have hbb : b' = b := by
      rw [hρ, q1] at p1
      simp only [Value.pointer.injEq, Option.some.injEq, Addr.mk.injEq, and_true] at p1
      exact p1.symm
    subst hbb
    rw [q2] at p2
    cases p2
    refine ⟨b', _, cur, p1, q2, by rw [q3, List.length_set], fun i lv u' hi' hu' => ?_⟩
    rw [List.getElem?_set] at hi'
    split at hi'
    · rename_i e
      cases hi'
      subst e
      rw [hcj] at hu'
      cases hu'
      exact ⟨by show v = upd ρ d v d; rw [upd_at], hX1⟩
    · rename_i e
      exact p4 i lv u' (by rw [List.getElem?_set, if_neg e]; exact hi') hu'
theorem le_rownil {Γ : Ctx} {t : List (Nat × LV)} {h : List (Nat × Ent)} {n T : Nat} {r : List SV} (k i m : Nat) (hk : h.lookup k = some (.row n T r)) (hi : r[i]? = some (.raw (.slice none 0 0))) : Le Γ ⟨t, ins k (.row n T (r.set i (.tr (fun _ => False) (.sl m []) (.slice none 0 0)))) h⟩ ⟨t, h⟩ := by
  rintro a w ⟨ρ, I⟩
  refine ⟨ρ, I.conv hk fun O hE => ?_⟩
  obtain ⟨hz, xs, vals, hown, hr⟩ := hE
  refine ⟨hz, xs, vals, by rw [List.length_set]; exact hown, fun j s hj => ?_⟩
  rcases set_getG hj with ⟨rfl, rfl⟩ | ⟨_, h2⟩
  · obtain ⟨q1, q2⟩ := hr j _ hi
    refine ⟨?_, q2⟩
    rw [rep_raw' q1]
    exact .tr _ _ _ (.nil _ _ _ _) fun b hb => hb.elim
  · exact hr j s h2
end Go.Abs

/- Marks in a struct of a value and two rows that lies in a box. No condition. -/
namespace Go.Abs
open Go Go.RowKit Go.Eager
set_option linter.unusedVariables false
section
variable {Γ : Ctx} {ops : Array Oper} {l : List (Oper × Nat)} {t : List (Nat × LV)} {h : List (Nat × Ent)} {K : St → Prop} {c d ty : Nat} {ps : String} {af : Array Edge} {x y : Operand}
theorem q_mark2 {f : Nat} {ts : Array Nat} {Z1 Z2 : Nat → Prop} {s1 s2 : SV} {v1 v2 p : Value} (kb : Nat) {k : Int} {R : Int → SV → Prop} (hc : MarkC Γ.P f (.agg [.raw p, s1, s2]) k R) (hcl : Calb Γ.P f)
    (g : Gd (.agg [.raw p, .tr Z1 s1 v1, .tr Z2 s2 v2]) (.agg [.raw p, s1, s2]))
    (hx : St.ev ⟨t, h⟩ x = .sv (.agg [.raw p, .tr Z1 s1 v1, .tr Z2 s2 v2])) (hy : St.ev ⟨t, h⟩ y = .sv (.raw (.int .i64 k))) (hM : ∀ b, Zn b (.agg [.raw p, .tr Z1 s1 v1, .tr Z2 s2 v2]) → Γ.w0.heap.size ≤ b ∨ Γ.M b)
    (hkb : h.lookup kb = some (.box [.sv (.raw p), .sv (.tr Z1 s1 v1), .sv (.tr Z2 s2 v2)]))
    (hR : ∀ k' s'', R k' s'' → ∃ (p' : Value) (s1' s2' : SV), s'' = .agg [.raw p', s1', s2'])
    (t' : List (Nat × LV)) (h' : List (Nat × Ent)) (hkb' : h'.lookup kb = some (.box [.sv (.raw p), .dead, .dead])) (ht : LsT (fun b => Zn b (.agg [.raw p, .tr Z1 s1 v1, .tr Z2 s2 v2])) t t') (hh : LsH (fun b => Zn b (.agg [.raw p, .tr Z1 s1 v1, .tr Z2 s2 v2])) h h')
    (hk : ∀ k' s1' s2' (Z1' Z2' : Nat → Prop), (∀ b, Z1' b → ¬ Z2' b) → (∀ b, Z1' b → Zn b (.agg [.raw p, .tr Z1 s1 v1, .tr Z2 s2 v2])) → (∀ b, Z2' b → Zn b (.agg [.raw p, .tr Z1 s1 v1, .tr Z2 s2 v2])) → R k' (.agg [.raw p, s1', s2']) →
      RunL Γ ops l ⟨(d, .sv (.raw (.int .i64 k'))) :: t', ins kb (.box [.sv (.raw p), .sv (.tr Z1' s1' v1), .sv (.tr Z2' s2' v2)]) h'⟩ K) :
    RunL Γ ops ((⟨some d, .call { callee := .value (.func f), args := #[x, y], argTypes := ts }, ty, ps, af, none⟩, 2) :: l) ⟨t, h⟩ K := by
  obtain ⟨fn, hf', hname, hb⟩ := hcl
  refine run_x (ext := False) rfl (by omega) (fun h => (h rfl).elim) fun a w ρ I hd => ?_
  obtain ⟨hT, hZ⟩ := tree_of I hx g
  have hX := I.ev x
  rw [hx] at hX
  have hY : a.eval y = .int .i64 k := ev_raw I hy
  have hrun : (execOp a.eval ⟨some d, .call { callee := .value (.func f), args := #[x, y], argTypes := ts }, ty, ps, af, none⟩).run Γ.P w = .ok (.enter f #[a.eval x, .int .i64 k]) w := by
    have hF : a.eval (.func f) = .func (.func f) #[] #[] := rfl
    simp [execOp, resolve, hF, Deferred.ofValue, invoke, run_callFunc hf' hname hb, hY]
  unfold XOk oN
  rw [hrun]
  refine (hc w _ _ hT fun b hb => (hZ b hb).1).mono ?_
  rintro e w' ⟨k', s'', he, hR', hC, hT'⟩
  obtain ⟨p', s1', s2', rfl⟩ := hR k' s'' hR'
  have I' := I.less hC hZ hM ht hh
  generalize hU : a.eval x = u at hX hT'
  cases hX with
  | agg _ vs hn h1 h2 =>
    have hlen : vs.size = 3 := by rw [hn]; rfl
    have g0 : vs[0]? = some (vs[0]'(by omega)) := Array.getElem?_eq_getElem (by omega)
    have g1 : vs[1]? = some (vs[1]'(by omega)) := Array.getElem?_eq_getElem (by omega)
    have g2 : vs[2]? = some (vs[2]'(by omega)) := Array.getElem?_eq_getElem (by omega)
    have e0 : vs[0]'(by omega) = p := rep_raw' (h2 0 (.raw p) _ rfl g0)
    have e1 : vs[1]'(by omega) = v1 := by
      have := h2 1 (.tr Z1 s1 v1) _ rfl g1
      generalize vs[1]'(by omega) = q at this
      cases this; rfl
    have e2 : vs[2]'(by omega) = v2 := by
      have := h2 2 (.tr Z2 s2 v2) _ rfl g2
      generalize vs[2]'(by omega) = q at this
      cases this; rfl
    rw [e0] at g0
    rw [e1] at g1
    rw [e2] at g2
    cases hT' with
    | agg _ _ _ z hn' h1' h2' hzn' hap' =>
      have t0 : Tree w' (z 0) (.raw p') p := h2' 0 _ _ rfl g0
      have ep : p = p' := tree_raw t0
      subst ep
      have t1 : Tree w' (z 1) s1' v1 := h2' 1 _ _ rfl g1
      have t2 : Tree w' (z 2) s2' v2 := h2' 2 _ _ rfl g2
      have hO : ∀ b, ¬ Own Γ h ρ b → ¬ Own Γ h' ρ b := by
        rintro b hno (hb | ⟨k1, e1, hk1, hb⟩)
        · exact hno (.inl hb)
        · obtain ⟨e0, hk0, _⟩ := lsH_lookup hh hk1
          exact hno (.inr ⟨k1, e0, hk0, hb⟩)
      have zz : ∀ i b, z i b → b < w'.heap.size ∧ ¬ Own Γ h' ρ b := fun i b hb => ⟨Nat.lt_of_lt_of_le (hZ b (hzn' i b hb)).1 hC.size, hO b (hZ b (hzn' i b hb)).2⟩
      obtain ⟨b0, T0, cur, p1, p2, p3, p4⟩ := I.ent kb _ hkb
      have hbO : Own Γ h ρ b0 := .inr ⟨kb, _, hkb, by rw [p1]; rfl⟩
      have hblt : b0 < w.heap.size := (I.new kb _ b0 hkb (by rw [p1]; rfl)).2
      have hbk : w'.heap[b0]? = w.heap[b0]? := hC.block b0 hblt fun hz => (hZ b0 hz).2 hbO
      have J : Iv Γ ⟨t', ins kb (.box [.sv (.raw p), .sv (.tr (z 1) s1' v1), .sv (.tr (z 2) s2' v2)]) h'⟩ ρ a w' := by
        refine I'.convO hkb' fun hE => ?_
        obtain ⟨b1, T1, cur1, q1, q2, q3, q4⟩ := hE
        have hbb : b1 = b0 := by
          rw [p1] at q1
          simp only [Value.pointer.injEq, Option.some.injEq, Addr.mk.injEq, and_true] at q1
          exact q1.symm
        subst hbb
        rw [hbk, p2] at q2
        cases q2
        refine ⟨b1, _, cur, p1, by rw [hbk, p2], by rw [p3]; rfl, fun i lv u' hi hu => ?_⟩
        match i, hi with
        | 0, hi => cases hi; exact q4 0 _ u' rfl hu
        | 1, hi =>
          cases hi
          obtain ⟨r1, r2⟩ := p4 1 _ u' rfl hu
          have hu' : u' = v1 := by
            have r1 : Rep w _ (.tr Z1 s1 v1) u' := r1
            cases r1; rfl
          subst hu'
          exact ⟨.tr _ _ _ t1 (zz 1), r2⟩
        | 2, hi =>
          cases hi
          obtain ⟨r1, r2⟩ := p4 2 _ u' rfl hu
          have hu' : u' = v2 := by
            have r1 : Rep w _ (.tr Z2 s2 v2) u' := r1
            cases r1; rfl
          subst hu'
          exact ⟨.tr _ _ _ t2 (zz 2), r2⟩
        | i + 3, hi => simp at hi
      exact ⟨_, he, _, hk k' s1' s2' (z 1) (z 2) (fun b h1 h2 => absurd (hap' 1 2 b h1 h2) (by decide)) (hzn' 1) (hzn' 2) hR', ⟨ρ, J.put (d := some d) (by simpa [dstOk] using hd) (Rep.raw _)⟩, fun h => h.elim⟩
end
end Go.Abs

/- A region that draws its order, where two operations that make something stand side by side: both orders are walked. No condition. -/
namespace Go.Abs
open Go Go.RowKit Go.Eager
set_option linter.unusedVariables false
set_option linter.unusedSimpArgs false
inductive Tr
  | leaf (s : List Nat)
  | fork (s : List Nat) (i : Nat) (t : Tr) (j : Nat) (u : Tr)
def Tr.len : Tr → Nat
  | .leaf s => s.length
  | .fork s _ t _ _ => s.length + (t.len + 1)
section
variable (P : Program) (ops : Array Oper) (cls : Nat → Nat) (Q : Act → World → Prop)
def wpT : Tr → Act → World → Prop
  | .leaf s => wpE P ops cls Q s
  | .fork s i t j u => wpE P ops cls (fun a w => opN P ops cls i (wpT t) a w ∧ opN P ops cls j (wpT u) a w) s
def chkS (B : Array (List Nat)) : List Nat → Array Bool → Bool
  | [], _ => true
  | i :: s, listed =>
    (Region.ready .any ops listed).contains i &&
    (if cls i ≤ 1 then
      ((ops[i]?).map fun oi => (List.range ops.size).all fun j => j == i || listed.getD j true || (B.getD j []).contains i || (((ops[j]?).map fun oj => oi.apart ops oj).getD true && (cls i == 0 || cls j != 2))).getD false
     else (Region.ready .any ops listed) == [i]) &&
    chkS B s (listed.setIfInBounds i true)
def listAll (s : List Nat) (listed : Array Bool) : Array Bool := s.foldl (fun l i => l.setIfInBounds i true) listed
def chkT (B : Array (List Nat)) : Tr → Array Bool → Bool
  | .leaf s, listed => s.all (fun i => decide (i < ops.size)) && chk ops cls B s listed
  | .fork s i t j u, listed => s.all (fun i => decide (i < ops.size)) && chkS ops cls B s listed && (Region.ready .any ops (listAll s listed) == [i, j]) && (t.len == u.len) &&
    chkT B t ((listAll s listed).setIfInBounds i true) && chkT B u ((listAll s listed).setIfInBounds j true)
end
theorem anyN_prefix {P : Program} {ops : Array Oper} {cls : Nat → Nat} {Q R : Act → World → Prop} {B : Array (List Nat)} (hB : closedB ops B = true) (hs : Region.noSelect ops = true) (n : Nat) :
    ∀ (s : List Nat) (listed : Array Bool) (a : Act) (w : World), Shut B listed → chkS ops cls B s listed = true → wpE P ops cls R s a w → (Shut B (listAll s listed) → ∀ a w, R a w → anyN P ops cls Q n (listAll s listed) a w) → anyN P ops cls Q (s.length + n) listed a w
  | [], listed, a, w, hS, hc, h, hk => by simpa [listAll] using hk hS a w h
  | i :: s, listed, a, w, hS, hc, h, hk => by
    simp only [chkS, Bool.and_eq_true] at hc
    obtain ⟨⟨hr, hf⟩, hc'⟩ := hc
    have hr' : i ∈ Region.ready .any ops listed := by simpa using hr
    have e : (i :: s).length + n = s.length + n + 1 := by simp only [List.length_cons]; omega
    rw [e]
    unfold wpE at h
    cases hi : ops[i]? with
    | none => simp only [hi] at h
    | some oi =>
      simp only [hi] at h
      by_cases hl : cls i ≤ 1
      · simp only [hl, if_true] at h hf
        obtain ⟨v, hy, hk'⟩ := h
        have ih := anyN_prefix hB hs n s (listed.setIfInBounds i true) (a.put oi.dst v) w (Shut.add hB hS hr') hc' hk' hk
        simp only [hi, Option.map_some, Option.getD_some, List.all_eq_true, List.mem_range] at hf
        refine anyN_first hB (c := cls i) hi (by omega) (Region.noSelect_spec hs) (s.length + n) listed a w hS ?_ hr' hy ih
        intro j oj hoj hji hun hno
        have h1 := hf j (Array.getElem?_eq_some_iff.1 hoj).1
        simp only [hoj, Option.map_some, Option.getD_some, Bool.or_eq_true, Bool.and_eq_true, beq_iff_eq, bne_iff_ne, ne_eq, List.contains_iff_mem] at h1
        rcases h1 with ((h1 | h1) | h1) | h1
        · exact absurd h1 hji
        · rw [h1] at hun; cases hun
        · exact absurd h1 hno
        · exact ⟨h1.1, h1.2⟩
      · simp only [hl, if_false] at h hf
        have hre : Region.ready .any ops listed = [i] := by simpa using hf
        refine ⟨fun h0 => (by rw [h0] at hr'; cases hr'), fun j hj => ?_⟩
        rw [hre] at hj
        obtain rfl : j = i := by simpa using hj
        exact opN_mono (fun a' w' h3 => anyN_prefix hB hs n s _ a' w' (Shut.add hB hS hr') hc' h3 hk) h
theorem anyN_of_wpT {P : Program} {ops : Array Oper} {cls : Nat → Nat} {Q : Act → World → Prop} {B : Array (List Nat)} (hB : closedB ops B = true) (hs : Region.noSelect ops = true) :
    ∀ (t : Tr) (listed : Array Bool) (a : Act) (w : World), Shut B listed → chkT ops cls B t listed = true → wpT P ops cls Q t a w → anyN P ops cls Q t.len listed a w
  | .leaf s, listed, a, w, hS, hc, h => by
    simp only [chkT, Bool.and_eq_true] at hc
    exact anyN_of_wpE hB hs s listed a w hS hc.2 h
  | .fork s i t j u, listed, a, w, hS, hc, h => by
    simp only [chkT, Bool.and_eq_true, beq_iff_eq] at hc
    obtain ⟨⟨⟨⟨⟨-, hc1⟩, hre⟩, hlen⟩, hct⟩, hcu⟩ := hc
    refine anyN_prefix hB hs (t.len + 1) s listed a w hS hc1 h fun hS' a' w' hk => ?_
    refine ⟨fun h0 => (by rw [h0] at hre; cases hre), fun k hk' => ?_⟩
    have hk2 := hk'
    rw [hre] at hk2
    simp only [List.mem_cons, List.not_mem_nil, or_false] at hk2
    rcases hk2 with rfl | rfl
    · exact opN_mono (fun a2 w2 h3 => anyN_of_wpT hB hs t _ a2 w2 (Shut.add hB hS' hk') hct h3) hk.1
    · rw [hlen]
      exact opN_mono (fun a2 w2 h3 => anyN_of_wpT hB hs u _ a2 w2 (Shut.add hB hS' hk') hcu h3) hk.2
def pp (L : List Oper) (s : List Nat) : List (Oper × Nat) := s.filterMap fun i => (L[i]?).map fun o => (o, clsOp o.op)
@[reducible] def clsL (L : List Oper) (i : Nat) : Nat := match L[i]? with | some o => clsOp o.op | none => 2
theorem wpE_of_pp {P : Program} {L : List Oper} {Q : Act → World → Prop} : ∀ (s : List Nat) (a : Act) (w : World), s.all (fun i => decide (i < L.toArray.size)) = true → wpP P L.toArray Q (pp L s) a w → wpE P L.toArray (clsL L) Q s a w
  | [], a, w, _, h => h
  | i :: s, a, w, hs, h => by
    simp only [List.all_cons, Bool.and_eq_true, decide_eq_true_eq] at hs
    have hi : i < L.length := by simpa using hs.1
    have h0 : L[i]? = some L[i] := List.getElem?_eq_getElem hi
    have h1 : L.toArray[i]? = some L[i] := by simp
    have e : pp L (i :: s) = (L[i], clsOp L[i].op) :: pp L s := by simp [pp, h0]
    rw [e] at h
    unfold wpP at h
    unfold wpE
    simp only [h1]
    have hc : clsL L i = clsOp L[i].op := by simp [clsL, h0]
    rw [hc]
    by_cases h2 : clsOp L[i].op ≤ 1
    · rw [if_pos h2] at h ⊢
      obtain ⟨v, h4, h5⟩ := h
      exact ⟨v, h4, wpE_of_pp s _ _ hs.2 h5⟩
    · rw [if_neg h2] at h ⊢
      unfold opN
      simp only [h1]
      split
      · rename_i hw; rw [if_pos hw] at h
        exact oN_mono (fun v w' hk => ⟨fun h2 => hk.1 (by rw [← hc]; exact h2), wpE_of_pp s _ _ hs.2 hk.2⟩) h
      · rename_i hw; rw [if_neg hw] at h
        exact wpE_of_pp s _ _ hs.2 h
theorem opN_of_pp {P : Program} {L : List Oper} {Q : Act → World → Prop} {i : Nat} {a : Act} {w : World} (hi : i < L.length) (hc : ¬ clsL L i ≤ 1) (h : wpP P L.toArray Q (pp L [i]) a w) : opN P L.toArray (clsL L) i Q a w := by
  have h1 := wpE_of_pp (P := P) (L := L) (Q := Q) [i] a w (by simpa using hi) h
  have h0 : L.toArray[i]? = some L[i] := by simp [List.getElem?_eq_getElem hi]
  unfold wpE at h1
  simp only [h0] at h1
  rw [if_neg hc] at h1
  exact h1
def RunT (Γ : Ctx) (L : List Oper) : Tr → St → (St → Prop) → Prop
  | .leaf s, σ, K => RunL Γ L.toArray (pp L s) σ K
  | .fork s i t j u, σ, K => RunL Γ L.toArray (pp L s) σ fun σ' => RunL Γ L.toArray (pp L [i]) σ' (fun σ'' => RunT Γ L t σ'' K) ∧ RunL Γ L.toArray (pp L [j]) σ' (fun σ'' => RunT Γ L u σ'' K)
def Tr.forks (L : List Oper) : Tr → Bool
  | .leaf _ => true
  | .fork _ i t j u => decide (i < L.length) && decide (j < L.length) && decide (1 < clsL L i) && decide (1 < clsL L j) && t.forks L && u.forks L
theorem pp_ok {Γ : Ctx} {L : List Oper} (hd : (L.map fun o => (o, clsOp o.op)).all (fun p => dstOk Γ p.1) = true) (s : List Nat) : (pp L s).all (fun p => dstOk Γ p.1) = true := by
  rw [List.all_eq_true] at hd ⊢
  intro p hp
  simp only [pp, List.mem_filterMap, Option.map_eq_some_iff] at hp
  obtain ⟨i, _, o, ho, rfl⟩ := hp
  exact hd _ (List.mem_map.2 ⟨o, List.mem_of_getElem? ho, rfl⟩)
theorem wpP_monoT {P : Program} {ops : Array Oper} {Q Q' : Act → World → Prop} (h : ∀ a w, Q a w → Q' a w) : ∀ (l : List (Oper × Nat)) (a : Act) (w : World), wpP P ops Q l a w → wpP P ops Q' l a w
  | [], a, w, hh => h _ _ hh
  | (o, c) :: l, a, w, hh => by
    unfold wpP at hh ⊢
    split
    · rename_i h2; rw [if_pos h2] at hh
      obtain ⟨v, h4, h5⟩ := hh
      exact ⟨v, h4, wpP_monoT h l _ _ h5⟩
    · rename_i h2; rw [if_neg h2] at hh
      split
      · rename_i hw; rw [if_pos hw] at hh; exact oN_mono (fun v w' hk => ⟨hk.1, wpP_monoT h l _ _ hk.2⟩) hh
      · rename_i hw; rw [if_neg hw] at hh; exact wpP_monoT h l _ _ hh
theorem wpT_of_runT {Γ : Ctx} {L : List Oper} (hd : (L.map fun o => (o, clsOp o.op)).all (fun p => dstOk Γ p.1) = true) {K : St → Prop} {B : Array (List Nat)} : ∀ (t : Tr) (listed : Array Bool) (σ : St) (a : Act) (w : World), chkT L.toArray (clsL L) B t listed = true → t.forks L = true → RunT Γ L t σ K → Inv Γ σ a w → wpT Γ.P L.toArray (clsL L) (fun a' w' => ∃ σ', K σ' ∧ Inv Γ σ' a' w') t a w
  | .leaf s, listed, σ, a, w, hc, _, h, I => by
    simp only [chkT, Bool.and_eq_true] at hc
    exact wpE_of_pp s a w hc.1 (h (pp_ok hd s) a w I)
  | .fork s i t j u, listed, σ, a, w, hc, hf, h, I => by
    simp only [chkT, Bool.and_eq_true] at hc
    obtain ⟨⟨⟨⟨⟨hs, -⟩, -⟩, -⟩, hct⟩, hcu⟩ := hc
    simp only [Tr.forks, Bool.and_eq_true, decide_eq_true_eq] at hf
    obtain ⟨⟨⟨⟨⟨hi, hj⟩, ci⟩, cj⟩, ft⟩, fu⟩ := hf
    refine wpE_of_pp s a w hs (wpP_monoT ?_ _ _ _ (h (pp_ok hd s) a w I))
    rintro a' w' ⟨σ', ⟨h1, h2⟩, I'⟩
    refine ⟨opN_of_pp hi (by omega) (wpP_monoT ?_ _ _ _ (h1 (pp_ok hd _) a' w' I')), opN_of_pp hj (by omega) (wpP_monoT ?_ _ _ _ (h2 (pp_ok hd _) a' w' I'))⟩
    · rintro a2 w2 ⟨σ2, hk, I2⟩; exact wpT_of_runT hd t _ σ2 a2 w2 hct ft hk I2
    · rintro a2 w2 ⟨σ2, hk, I2⟩; exact wpT_of_runT hd u _ σ2 a2 w2 hcu fu hk I2
theorem ok_region_t {Γ : Ctx} {σ : St} {K : St → Prop} {Q : Exit → St → Prop} {id : Nat} {L : List Oper} (t : Tr) (hm : Γ.P.follows .mixedOrders = true)
    (hc : (closedB L.toArray (waits L) && Region.noSelect L.toArray && (t.len == L.length) && t.forks L && chkT L.toArray (clsL L) (waits L) t (Array.replicate L.length false)) = true)
    (hd : (L.map fun o => (o, clsOp o.op)).all (fun p => dstOk Γ p.1) = true) (h : RunT Γ L t σ K) : Ok Γ (.region id L.toArray true) σ (thenQ K Q) := by
  intro a w I
  simp only [Bool.and_eq_true, beq_iff_eq] at hc
  obtain ⟨⟨⟨⟨hB, hs⟩, hl⟩, hf⟩, hk⟩ := hc
  have h1 := wpT_of_runT hd t (Array.replicate L.length false) σ a _ hk hf h I.drew
  refine wp_region_any hm (wpAny_of_anyN (cls := clsL L) (Q := fun a' w' => ∃ σ', K σ' ∧ Inv Γ σ' a' w') (fun _ _ h => h) _ _ _ _ ?_)
  have h2 := anyN_of_wpT hB hs t (Array.replicate L.length false) a _ (fun k m hk _ => by
    by_cases hlt : k < L.length <;> simp [hlt] at hk) hk h1
  rw [hl] at h2
  simpa using h2
theorem runT_leaf {Γ : Ctx} {L : List Oper} {s : List Nat} {σ : St} {K : St → Prop} (h : RunL Γ L.toArray (pp L s) σ K) : RunT Γ L (.leaf s) σ K := h
theorem runT_fork {Γ : Ctx} {L : List Oper} {s : List Nat} {i j : Nat} {t u : Tr} {σ : St} {K : St → Prop} (h : RunL Γ L.toArray (pp L s) σ fun σ' => RunL Γ L.toArray (pp L [i]) σ' (fun σ'' => RunT Γ L t σ'' K) ∧ RunL Γ L.toArray (pp L [j]) σ' (fun σ'' => RunT Γ L u σ'' K)) : RunT Γ L (.fork s i t j u) σ K := h
end Go.Abs
