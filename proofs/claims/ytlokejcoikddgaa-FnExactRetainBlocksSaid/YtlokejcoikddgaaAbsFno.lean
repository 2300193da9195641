/- A function that hands back a row of its own. No condition. -/
import Derived.Test.YtlokejcoikddgaaAbsSort
namespace Go.Abs
open Go Go.RowKit Go.Eager
set_option linter.unusedVariables false
/-- The result is a row of ours; or nothing. -/
def endO (t n T : Nat) (l : List SV) : Exit → St → Prop
  | .normal, σ | .ret, σ => (∃ k, σ.ev (.tmp t) = .own k ∧ σ.h.lookup k = some (.row n T l)) ∨ (σ.ev (.tmp t) = .sv (.raw (.slice none 0 0)) ∧ l = [])
  | _, _ => False
theorem fno_ok_at {P : Program} {f : FuncId} {fn : Func} {c : Code} {args : List SV} {t n T : Nat} {l : List SV} (hz : 0 < n) (hf : P.funcs[f]? = some fn) (hb : fn.body = some c) (hrs : fn.results = #[.tmp t]) (hn : args.length ≤ fn.ntmps)
    (w : World) (O : Nat → Prop) (h : Ok { P := P, w0 := w, O := O, M := fun _ => False, inn := fun _ => none, n := fn.ntmps } c ⟨args.zipIdx.map fun p => (p.2, .sv p.1), []⟩ (endO t n T l)) (vs : Array Value) (hO : ∀ b, O b → b < w.heap.size) (hvs : vs.size = args.length)
    (hrep : ∀ (i : Nat) (s : SV) (u : Value), args[i]? = some s → vs[i]? = some u → Rep w O s u) : Calls P f vs w fun e w' => ∃ v, e = .returned v ∧ Ext w w' ∧ 0 < n ∧ ∃ (xs : List Value) (vals : Nat → Value), w'.ownsRow w.heap.size T n v l.length xs ∧
      ∀ (i : Nat) (s : SV), l[i]? = some s → Rep w' (fun b => O b ∨ blk v = some b) s (vals i) ∧ (vals i).cells.size = n ∧ ∀ (j : Nat) (u : Value), (vals i).cells[j]? = some u → xs[i * n + j]? = some u := by
  refine calls_of_wp hf hb ?_
  let Γ : Ctx := { P := P, w0 := w, O := O, M := fun _ => False, inn := fun _ => none, n := fn.ntmps }
  have hlk : ∀ (l : List SV) (k t : Nat) (lv : LV), ((l.zipIdx k).map fun p => (p.2, LV.sv p.1)).lookup t = some lv → ∃ s, l[t - k]? = some s ∧ lv = .sv s ∧ k ≤ t := by
    intro l
    induction l with
    | nil => intro k t lv h; simp at h
    | cons s l ih =>
      intro k t lv h
      simp only [List.zipIdx_cons, List.map_cons, List.lookup_cons] at h
      by_cases ht : t = k
      · subst ht; simp at h; exact ⟨s, by simp, h.symm, Nat.le_refl _⟩
      · have : (t == k) = false := by simpa using ht
        simp only [this] at h
        obtain ⟨s', h1, h2, h3⟩ := ih (k + 1) t lv h
        refine ⟨s', ?_, h2, by omega⟩
        rw [show t - k = (t - (k + 1)) + 1 by omega]; simpa using h1
  have I : Inv Γ ⟨args.zipIdx.map fun p => (p.2, .sv p.1), []⟩ { tmps := vs ++ Array.replicate (fn.ntmps - vs.size) undef, defers := [] } w := by
    refine ⟨fun _ => undef, ⟨rfl, by simp [Γ]; omega, ⟨rfl, rfl, rfl, Nat.le_refl _, fun _ _ _ => rfl⟩, ?_, ?_, ?_, ?_, fun b hb => ⟨hO b hb, fun h => h⟩, ?_⟩⟩
    · intro t lv ht
      obtain ⟨s, h1, rfl, _⟩ := hlk args 0 t lv ht
      have hlt : t < vs.size := by rw [hvs]; simpa using (List.getElem?_eq_some_iff.1 h1).1
      have hu : vs[t]? = some vs[t] := Array.getElem?_eq_getElem hlt
      have h2 := hrep t s _ (by simpa using h1) hu
      have h3 : (vs ++ Array.replicate (fn.ntmps - vs.size) undef).getD t undef = vs[t] := by
        rw [Array.getD_eq_getD_getElem?, Array.getElem?_append_left hlt, hu]; rfl
      show Rep w _ s _
      rw [h3]
      exact Rep.kp h2 fun b _ hno => ⟨rfl, fun h => by
        rcases h with h | ⟨k, e, hk, _⟩
        · exact hno h
        · simp at hk⟩
    · intro k e hk; simp at hk
    · intro k e b hk; simp at hk
    · intro k k' e e' b hk; simp at hk
    · intro k v hv; simp [Γ] at hv
  refine wp_mono (h _ w I) ?_
  rintro e a' w' ⟨σ', hq, ρ, J⟩
  have hres : (results fn a'.tmps).run P w' = .ok (a'.tmps.getD t undef) w' := by
    unfold results
    rw [hrs]
    simp
  have fin : ((∃ k, σ'.ev (.tmp t) = .own k ∧ σ'.h.lookup k = some (.row n T l)) ∨ (σ'.ev (.tmp t) = .sv (.raw (.slice none 0 0)) ∧ l = [])) →
      a'.defers = [] ∧ ∃ v, (results fn a'.tmps).run P w' = .ok v w' ∧ ∃ v', Ending.returned v = .returned v' ∧ Ext w w' ∧ 0 < n ∧ ∃ (xs : List Value) (vals : Nat → Value), w'.ownsRow w.heap.size T n v' l.length xs ∧
      ∀ (i : Nat) (s : SV), l[i]? = some s → Rep w' (fun b => O b ∨ blk v' = some b) s (vals i) ∧ (vals i).cells.size = n ∧ ∀ (j : Nat) (u : Value), (vals i).cells[j]? = some u → xs[i * n + j]? = some u := by
    have hext : Ext w w' := ⟨J.frm.os, J.frm.tape, J.frm.output, J.frm.size, fun b hb => J.frm.block b hb (fun h => h)⟩
    rintro (⟨k, h1, h2⟩ | ⟨h1, rfl⟩)
    · have hv : a'.tmps.getD t undef = ρ k := by have := J.ev (.tmp t); rw [h1] at this; exact this
      obtain ⟨hz', xs, vals, hown, hel⟩ := J.ent k _ h2
      refine ⟨J.dfr, _, hres, _, rfl, hext, hz, xs, vals, ?_, fun i s hi => ?_⟩
      · rw [hv]
        refine ⟨hown.1, ?_⟩
        rcases hown.2 with h | ⟨g, cap, cur, e1, _, e3⟩
        · exact .inl h
        · refine .inr ⟨g, cap, cur, e1, ?_, e3⟩
          rcases (J.new k _ g h2 (by rw [e1]; rfl)).1 with h | h
          · exact h
          · exact h.elim
      · obtain ⟨r1, r2, r3⟩ := hel i s hi
        refine ⟨r1.kp (fun b hb hno => ⟨rfl, ?_⟩), r2, r3⟩
        rintro (h | h)
        · exact hno (.inl h)
        · rw [hv] at h; exact hno (.inr ⟨k, _, h2, h⟩)
    · have hv : a'.tmps.getD t undef = .slice none 0 0 := ev_raw ⟨J.dfr, J.size, J.frm, J.tmp, J.ent, J.new, J.sep, J.out, J.inn⟩ h1
      refine ⟨J.dfr, _, hres, _, rfl, hext, hz, [], fun _ => undef, ?_, fun i s hi => by simp at hi⟩
      rw [hv]
      exact World.ownsRow_nil w' _ T n
  cases e with
  | normal => exact fin hq
  | ret => exact fin hq
  | _ => exact hq.elim
/-- **A function that hands back a row of its own**, at a frame written out. -/
theorem fno_ok {P : Program} {f : FuncId} {fn : Func} {c : Code} {args : List SV} {t n T m : Nat} {l : List SV} {t0 : List (Nat × LV)} (hz : 0 < n) (hf : P.funcs[f]? = some fn) (hb : fn.body = some c) (hrs : fn.results = #[.tmp t]) (hnt : fn.ntmps = m) (hn : args.length ≤ m)
    (ht : (args.zipIdx.map fun p => (p.2, LV.sv p.1)) = t0) (h : ∀ w0 O, Ok (ctx P w0 O m) c ⟨t0, []⟩ (endO t n T l)) : PFnO P f args n T l := by
  subst hnt ht
  intro w O
  refine fno_ok_at hz hf hb hrs hn w O (h w O)
end Go.Abs
