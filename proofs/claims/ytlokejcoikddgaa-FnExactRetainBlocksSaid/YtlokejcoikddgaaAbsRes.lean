/- Results that are read from a box of the function's own. No condition. -/
import Derived.Test.YtlokejcoikddgaaAbsSc
namespace Go.Abs
open Go Go.RowKit Go.Eager
set_option linter.unusedVariables false
/-- One result, as it is handed out. -/
def ResOne (P : Program) (σ : St) (r : ResultVar) (s : SV) : Prop :=
  match r with
  | .tmp t => lend σ.h (σ.ev (.tmp t)) = some s
  | .cell t T => stepR P σ (.load T (.tmp t)) fun lv => lend σ.h lv = some s
def ResL (P : Program) (σ : St) : List ResultVar → List SV → Prop
  | [], l => l = []
  | r :: rs, l => ∃ s l', ResOne P σ r s ∧ ResL P σ rs l' ∧ l = s :: l'
def endR (P : Program) (rs : List ResultVar) (R : List SV → Prop) : Exit → St → Prop
  | .normal, σ | .ret, σ => ∃ l, ResL P σ rs l ∧ R l
  | _, _ => False
theorem loadVar_of_loadAt {P : Program} {T : TypeId} {v u : Value} {w : World} (h : (Instr.loadAt T v).run P w = .ok u w) : (do loadVar T (← asAddr v)).run P w = .ok u w := by
  cases v with
  | pointer p =>
    cases p with
    | none => simp [Instr.loadAt, Instr.sureAddr] at h
    | some a => simpa [Instr.loadAt, Instr.sureAddr, asAddr] using h
  | _ => simp [Instr.loadAt, Instr.sureAddr] at h
section
variable {Γ : Ctx} {σ : St} {ρ : Nat → Value} {a : Act} {w : World}
def resRun (tmps : Array Value) : ResultVar → Sem Value
  | .tmp t => pure (tmps.getD t undef)
  | .cell a t => do loadVar t (← asAddr (tmps.getD a undef))
theorem run_resone (I : Iv Γ σ ρ a w) {r : ResultVar} {s : SV} (h : ResOne Γ.P σ r s) : ∃ u, (resRun a.tmps r).run Γ.P w = .ok u w ∧ Rep w Γ.O s u := by
  cases r with
  | tmp t => exact ⟨a.eval (.tmp t), by simp [resRun, Act.eval], lend_rep I (I.ev (.tmp t)) h⟩
  | cell t T =>
    obtain ⟨lv, v, h1, h2, h3⟩ := stepR_sound (o := ⟨none, .load T (.tmp t), 0, "", #[], none⟩) (a := a) (w := w) (K := fun lv => lend σ.h lv = some s) I (by exact h)
    refine ⟨v, loadVar_of_loadAt ?_, lend_rep I h2 h1⟩
    have := h3 w (Ext.refl w)
    have e : (execOp a.eval ⟨none, .load T (.tmp t), 0, "", #[], none⟩).run Γ.P w = ((Instr.loadAt T (a.tmps.getD t undef)).run Γ.P w).andThen fun v w' => .ok (.value v) w' := by simp [execOp, Act.eval]
    rw [e] at this
    cases hl : (Instr.loadAt T (a.tmps.getD t undef)).run Γ.P w with
    | ok u w' => rw [hl] at this; simp [Result.andThen] at this; obtain ⟨rfl, rfl⟩ := this; rfl
    | _ => rw [hl] at this; simp [Result.andThen] at this
theorem run_resl (I : Iv Γ σ ρ a w) {rs : List ResultVar} {l : List SV} (h : ResL Γ.P σ rs l) (fn : Func) (hrs : fn.results.toList = rs) :
    ∃ vs : Array Value, vs.size = l.length ∧ (results fn a.tmps).run Γ.P w = .ok (if h : vs.size = 1 then vs[0] else .tuple vs) w ∧ ∀ (i : Nat) (s : SV) (u : Value), l[i]? = some s → vs[i]? = some u → Rep w Γ.O s u := by
  have key : ∀ (rs : List ResultVar) (l : List SV) (acc : Array Value), ResL Γ.P σ rs l → ∃ vs : List Value, vs.length = l.length ∧ (List.foldlM (fun (bs : Array Value) r => bs.push <$> resRun a.tmps r) acc rs : Sem (Array Value)).run Γ.P w = .ok (acc ++ vs.toArray) w ∧
      ∀ (i : Nat) (s : SV) (u : Value), l[i]? = some s → vs[i]? = some u → Rep w Γ.O s u := by
    intro rs
    induction rs with
    | nil => intro l acc h; simp only [ResL] at h; subst h; exact ⟨[], rfl, by simp, fun i s u h => by simp at h⟩
    | cons r rs ih =>
      intro l acc h
      obtain ⟨s, l', h1, h2, rfl⟩ := h
      obtain ⟨u, hu, hr⟩ := run_resone I h1
      obtain ⟨vs, h3, h4, h5⟩ := ih l' (acc.push u) h2
      refine ⟨u :: vs, by simp [h3], ?_, fun i s' u' hs hu' => ?_⟩
      · simp only [List.foldlM_cons, Sem.run_bind]
        have e : (acc.push <$> resRun a.tmps r).run Γ.P w = .ok (acc.push u) w := by simp [hu]
        rw [e]
        simp only [Result.andThen]
        rw [h4]; simp
      · cases i with
        | zero => simp at hs hu'; subst hs hu'; exact hr
        | succ i => exact h5 i s' u' (by simpa using hs) (by simpa using hu')
  obtain ⟨vs, h1, h2, h3⟩ := key rs l #[] h
  refine ⟨vs.toArray, by simp [h1], ?_, fun i s u hs hu => h3 i s u hs (by simpa using hu)⟩
  unfold results
  rw [Array.mapM_eq_foldlM, ← Array.foldlM_toList, hrs]
  simp only [Sem.run_bind]
  refine Eq.trans (congrArg (fun x => Result.andThen x fun vs w' => (pure (if h : vs.size = 1 then vs[0] else .tuple vs) : Sem Value).run Γ.P w') (?_ : _ = (List.foldlM (fun (bs : Array Value) r => bs.push <$> resRun a.tmps r) #[] rs : Sem (Array Value)).run Γ.P w)) ?_
  · congr 1
  · rw [h2]; simp
end
section
theorem fnr_ok_at {P : Program} {f : FuncId} {fn : Func} {c : Code} {rs : List ResultVar} {args : List SV} {r : SV} (hf : P.funcs[f]? = some fn) (hb : fn.body = some c) (hrs : fn.results.toList = rs) (hn : args.length ≤ fn.ntmps)
    (w : World) (O : Nat → Prop) (h : Ok { P := P, w0 := w, O := O, M := fun _ => False, inn := fun _ => none, n := fn.ntmps } c ⟨args.zipIdx.map fun p => (p.2, .sv p.1), []⟩ (endR P rs fun l => tupSV l = r)) (vs : Array Value) (hO : ∀ b, O b → b < w.heap.size) (hvs : vs.size = args.length)
    (hrep : ∀ (i : Nat) (s : SV) (u : Value), args[i]? = some s → vs[i]? = some u → Rep w O s u) : Calls P f vs w fun e w' => ∃ v, e = .returned v ∧ Ext w w' ∧ Rep w' O r v := by
  refine calls_of_wp hf hb ?_
  let Γ : Ctx := { P := P, w0 := w, O := O, M := fun _ => False, inn := fun _ => none, n := fn.ntmps }
  have hlk : ∀ (l : List SV) (k t : Nat) (lv : LV), ((l.zipIdx k).map fun p => (p.2, LV.sv p.1)).lookup t = some lv → ∃ s, l[t - k]? = some s ∧ lv = .sv s ∧ k ≤ t := by
    intro l
    induction l with
    | nil => intro k t lv h; simp at h
    | cons s l ih =>
      intro k t lv h
      simp only [List.zipIdx_cons, List.map_cons, List.lookup_cons] at h
      by_cases ht : t = k
      · subst ht; simp at h; exact ⟨s, by simp, h.symm, Nat.le_refl _⟩
      · have : (t == k) = false := by simpa using ht
        simp only [this] at h
        obtain ⟨s', h1, h2, h3⟩ := ih (k + 1) t lv h
        refine ⟨s', ?_, h2, by omega⟩
        rw [show t - k = (t - (k + 1)) + 1 by omega]; simpa using h1
  have I : Inv Γ ⟨args.zipIdx.map fun p => (p.2, .sv p.1), []⟩ { tmps := vs ++ Array.replicate (fn.ntmps - vs.size) undef, defers := [] } w := by
    refine ⟨fun _ => undef, ⟨rfl, by simp [Γ]; omega, ⟨rfl, rfl, rfl, Nat.le_refl _, fun _ _ _ => rfl⟩, ?_, ?_, ?_, ?_, fun b hb => ⟨hO b hb, fun h => h⟩, ?_⟩⟩
    · intro t lv ht
      obtain ⟨s, h1, rfl, _⟩ := hlk args 0 t lv ht
      have hlt : t < vs.size := by rw [hvs]; simpa using (List.getElem?_eq_some_iff.1 h1).1
      have hu : vs[t]? = some vs[t] := Array.getElem?_eq_getElem hlt
      have h2 := hrep t s _ (by simpa using h1) hu
      have h3 : (vs ++ Array.replicate (fn.ntmps - vs.size) undef).getD t undef = vs[t] := by
        rw [Array.getD_eq_getD_getElem?, Array.getElem?_append_left hlt, hu]; rfl
      show Rep w _ s _
      rw [h3]
      exact Rep.kp h2 fun b _ hno => ⟨rfl, fun h => by
        rcases h with h | ⟨k, e, hk, _⟩
        · exact hno h
        · simp at hk⟩
    · intro k e hk; simp at hk
    · intro k e b hk; simp at hk
    · intro k k' e e' b hk; simp at hk
    · intro k v hv; simp [Γ] at hv
  refine wp_mono (h _ w I) ?_
  rintro e a' w' ⟨σ', hq, ρ, J⟩
  have fin : (∃ l, ResL P σ' rs l ∧ tupSV l = r) → a'.defers = [] ∧ ∃ v, (results fn a'.tmps).run P w' = .ok v w' ∧ ∃ v', Ending.returned v = .returned v' ∧ Ext w w' ∧ Rep w' O r v' := by
    rintro ⟨l, hl, rfl⟩
    obtain ⟨vs', hv1, hv2, hv3⟩ := run_resl J hl fn hrs
    exact ⟨J.dfr, _, hv2, _, rfl, ⟨J.frm.os, J.frm.tape, J.frm.output, J.frm.size, fun b hb => J.frm.block b hb (fun h => h)⟩, tup_rep hv1 hv3⟩
  cases e with
  | normal => exact fin hq
  | ret => exact fin hq
  | _ => exact hq.elim

/-- **A function**, at a frame written out; its results may lie in boxes. -/
theorem fnr_ok {P : Program} {f : FuncId} {fn : Func} {c : Code} {rs : List ResultVar} {args : List SV} {r : SV} {n : Nat} {t0 : List (Nat × LV)} (hf : P.funcs[f]? = some fn) (hb : fn.body = some c) (hrs : fn.results.toList = rs) (hnt : fn.ntmps = n) (hn : args.length ≤ n)
    (ht : (args.zipIdx.map fun p => (p.2, LV.sv p.1)) = t0) (h : ∀ w0 O, Ok (ctx P w0 O n) c ⟨t0, []⟩ (endR P rs fun l => tupSV l = r)) : PFn P f args r := by
  subst hnt ht
  intro w O
  refine fnr_ok_at hf hb hrs hn w O (h w O)
theorem res_cells {P : Program} {σ : St} {t T k : Nat} {cells : List LV} {l : List SV} (hx : St.ev σ (.tmp t) = .ptr k 0) (hh : σ.h.lookup k = some (.box cells)) (hg : aggOf P T = some true) (hs : szOf P T = some l.length) (hc : cells = l.map .sv) : ResOne P σ (.cell t T) (.agg l) := by
  simp only [ResOne, stepR, hx]
  refine ⟨cells, hh, true, hg, (fun h => by cases h), fun _ => ⟨_, hs, l, ?_, rfl, rfl⟩⟩
  subst hc
  have : ∀ l : List SV, svs (l.map .sv) = some l := by
    intro l; induction l with
    | nil => rfl
    | cons s l ih => simp [svs, ih]
  simp [this, List.take_of_length_le]
/-- One result, in a box. -/
theorem ret_cell {P : Program} {σ : St} {t T k : Nat} {cells : List LV} {l : List SV} {r : SV} (hx : St.ev σ (.tmp t) = .ptr k 0) (hh : σ.h.lookup k = some (.box cells)) (hg : aggOf P T = some true) (hs : szOf P T = some l.length) (hc : cells = l.map .sv) (hr : SV.agg l = r) : endR P [.cell t T] (fun l => tupSV l = r) .ret σ :=
  ⟨[.agg l], ⟨_, _, res_cells hx hh hg hs hc, rfl, rfl⟩, hr⟩
end
end Go.Abs
