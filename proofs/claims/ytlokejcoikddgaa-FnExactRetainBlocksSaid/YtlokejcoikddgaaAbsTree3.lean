/- Calls whose arguments are trees; what stands aside; an empty row put in order. No condition. -/
import Derived.Test.YtlokejcoikddgaaAbsTree2
import Derived.Test.YtlokejcoikddgaaAbsSortK
namespace Go.Abs
open Go Go.RowKit Go.Eager
set_option linter.unusedVariables false
def ArgOk (lv : LV) (s : SV) : Prop := lv = .sv s ∨ (∃ r, lv = .sv r ∧ Gd r s) ∨ ∃ Z, lv = .av Z s
def ArgsOk : List LV → List SV → Prop
  | [], [] => True
  | lv :: l, s :: m => ArgOk lv s ∧ ArgsOk l m
  | _, _ => False
theorem ArgOk.rep {w : World} {O : Nat → Prop} {ρ : Nat → Value} {lv : LV} {s : SV} {u : Value} (h : ArgOk lv s) (hr : LRep w O ρ lv u) : Rep w O s u := by
  rcases h with rfl | ⟨r, rfl, g⟩ | ⟨Z, rfl⟩
  · exact hr
  · exact g.rep hr
  · exact Rep.kp (O := fun b => O b ∨ Z b) hr fun b hb hno => ⟨rfl, fun h => hno (.inl h)⟩
theorem argsOk_len : ∀ {l : List LV} {m : List SV}, ArgsOk l m → l.length = m.length
  | [], [], _ => rfl
  | [], _ :: _, h => h.elim
  | _ :: _, [], h => h.elim
  | _ :: l, _ :: m, h => by simp [argsOk_len h.2]
theorem argsOk_get : ∀ {l : List LV} {m : List SV} {i : Nat} {s : SV}, ArgsOk l m → m[i]? = some s → ∃ lv, l[i]? = some lv ∧ ArgOk lv s
  | [], [], i, s, _, h => by simp at h
  | [], _ :: _, _, _, h, _ => h.elim
  | _ :: _, [], _, _, h, _ => h.elim
  | lv :: l, x :: m, 0, s, h, hs => by simp at hs; subst hs; exact ⟨lv, rfl, h.1⟩
  | lv :: l, x :: m, i + 1, s, h, hs => by
    obtain ⟨lv', h1, h2⟩ := argsOk_get h.2 (by simpa using hs)
    exact ⟨lv', by simpa using h1, h2⟩
/-- These slots stand aside of the zone. -/
def avK (ks : List Nat) (Z : Nat → Prop) (t : List (Nat × LV)) : List (Nat × LV) := t.map fun p => (p.1, if ks.contains p.1 then (match p.2 with | .sv s => .av Z s | .av Z' s => .av (fun b => Z' b ∨ Z b) s | lv => lv) else p.2)
theorem avK_lookup {ks : List Nat} {Z : Nat → Prop} {k : Nat} {lv : LV} : ∀ {t : List (Nat × LV)}, (avK ks Z t).lookup k = some lv → t.lookup k = some lv ∨ (∃ s, t.lookup k = some (.sv s) ∧ lv = .av Z s) ∨ ∃ Z' s, t.lookup k = some (.av Z' s) ∧ lv = .av (fun b => Z' b ∨ Z b) s
  | [], h => by simp [avK] at h
  | (a, x) :: t, h => by
    simp only [avK, List.map_cons, List.lookup_cons] at h ⊢
    cases hk : (k == a) with
    | false => simp only [hk] at h ⊢; exact avK_lookup h
    | true =>
      simp only [hk, Option.some.injEq] at h ⊢
      split at h
      · cases x <;> simp only at h <;> subst h <;> simp
      · subst h; exact .inl rfl
theorem PFn.toR {P : Program} {f : FuncId} {args : List SV} {r : SV} (h : PFn P f args r) (hr : ∀ b, ¬ Zn b r) : PFnR P f args fun x => x = r := by
  intro w O vs hO hsz hrep
  refine (h w O vs hO hsz hrep).mono ?_
  rintro e w' ⟨v, he, hx, hv⟩
  exact ⟨v, r, he, hx, rfl, fun b hb => (hr b hb).elim, hv⟩
section
variable {Γ : Ctx} {σ : St} {ρ : Nat → Value} {a : Act} {w : World}
theorem ok_callg (I : Iv Γ σ ρ a w) {o : Oper} {f : FuncId} {fn : Func} {args : Array Operand} {ts : Array TypeId} {sa : List SV} {R : SV → Prop} {d : Nat} (ks : List Nat) {K : St → Prop}
    (ho : o.op = .call { callee := .value (.func f), args := args, argTypes := ts }) (hd : o.dst = some d) (hdn : d < Γ.n) (hf : Γ.P.funcs[f]? = some fn) (hname : (fn.name == "runtime.NumGoroutine") = false) (hb : fn.body.isNone = false)
    (ha : ArgsOk (args.toList.map σ.ev) sa) (hc : PFnR Γ.P f sa R) (hk : ∀ r, R r → (∀ b, Zn b r → Γ.w0.heap.size ≤ b) → Apart σ.t σ.h r → K ⟨(d, .sv r) :: avK ks (fun b => Zn b r) σ.t, σ.h⟩) : XOk Γ a w o True K := by
  have hrun : (execOp a.eval o).run Γ.P w = .ok (.enter f (args.map a.eval)) w := by
    have hY : a.eval (.func f) = .func (.func f) #[] #[] := rfl
    simp [execOp, ho, resolve, hY, Deferred.ofValue, invoke, run_callFunc hf hname hb]
  have hsz : (args.map a.eval).size = sa.length := by have := argsOk_len ha; simp at this; simp [this]
  unfold XOk oN
  rw [hrun]
  refine (hc w (Own Γ σ.h ρ) (args.map a.eval) (fun b hb => blk_lt I hb) hsz fun i s u hi' hu => ?_).mono ?_
  · obtain ⟨lv, h3, h4⟩ := argsOk_get ha hi'
    rw [Array.getElem?_map] at hu
    rw [List.getElem?_map] at h3
    cases hx : args[i]? with
    | none => simp [hx] at hu
    | some x =>
      have hx' : args.toList[i]? = some x := by simpa using hx
      simp only [hx', Option.map_some, Option.some.injEq] at h3
      simp only [hx, Option.map_some, Option.some.injEq] at hu
      subst hu h3
      exact h4.rep (I.ev x)
  · rintro e w' ⟨v, r, he, hx, hR, hn, hv⟩
    have I1 := I.ext hx
    have hkp : ∀ {O1 : Nat → Prop}, Kp w O1 w' (fun b => O1 b ∨ Zn b r) := by
      intro O1 b hlt hno
      exact ⟨hx.block b hlt, fun h => h.elim hno fun h => by have := hn b h; omega⟩
    have I2 : Iv Γ ⟨avK ks (fun b => Zn b r) σ.t, σ.h⟩ ρ a w' := by
      refine ⟨I1.dfr, I1.size, I1.frm, fun k lv hk => ?_, I1.ent, I1.new, I1.sep, I1.out, I1.inn⟩
      rcases avK_lookup hk with h | ⟨s, h, rfl⟩ | ⟨Z', s, h, rfl⟩
      · exact I1.tmp k lv h
      · exact Rep.kp (I.tmp k _ h) hkp
      · have h1 : Rep w (fun b => Own Γ σ.h ρ b ∨ Z' b) s (a.tmps.getD k undef) := I.tmp k _ h
        refine Rep.kp h1 fun b hlt hno => ⟨hx.block b hlt, ?_⟩
        rintro (h2 | h2 | h2)
        · exact hno (.inl h2)
        · exact hno (.inr h2)
        · have := hn b h2; omega
    refine ⟨v, he, _, hk r hR (fun b hb => Nat.le_trans I.frm.size (hn b hb)) (apart_of I hn), ⟨ρ, ?_⟩, fun _ => hx⟩
    rw [hd]
    exact I2.put (d := some d) (lv := .sv r) (by simpa using hdn) hv
end
section
variable {Γ : Ctx} {ops : Array Oper} {l : List (Oper × Nat)} {t : List (Nat × LV)} {h : List (Nat × Ent)} {K : St → Prop} {c d ty : Nat} {ps : String} {af : Array Edge} {x y : Operand}
/-- A call whose arguments may be trees; these slots stand aside of what is handed back. -/
theorem q_callg {f : Nat} {args : Array Operand} {ts : Array Nat} {sa : List SV} {R : SV → Prop} (ks : List Nat) (hc : PFnR Γ.P f sa R) (hcl : Calb Γ.P f) (ha : ArgsOk (args.toList.map (St.ev ⟨t, h⟩)) sa)
    (hk : ∀ r, R r → (∀ b, Zn b r → Γ.w0.heap.size ≤ b) → Apart t h r → RunL Γ ops l ⟨(d, .sv r) :: avK ks (fun b => Zn b r) t, h⟩ K) :
    RunL Γ ops ((⟨some d, .call { callee := .value (.func f), args := args, argTypes := ts }, ty, ps, af, none⟩, c + 2) :: l) ⟨t, h⟩ K :=
  let ⟨_, hf', hname, hb⟩ := hcl
  run_x (ext := True) rfl (by omega) (fun _ => trivial) fun _ _ _ I hd => ok_callg I ks rfl rfl (by simpa [dstOk] using hd) hf' hname hb ha hc hk
/-- .. one that hands back a plain value. -/
theorem q_callp {f : Nat} {args : Array Operand} {ts : Array Nat} {sa : List SV} {u : Value} (hc : PFn Γ.P f sa (.raw u)) (hcl : Calb Γ.P f) (ha : ArgsOk (args.toList.map (St.ev ⟨t, h⟩)) sa)
    (hk : RunL Γ ops l ⟨(d, .sv (.raw u)) :: t, h⟩ K) :
    RunL Γ ops ((⟨some d, .call { callee := .value (.func f), args := args, argTypes := ts }, ty, ps, af, none⟩, c + 2) :: l) ⟨t, h⟩ K := by
  refine q_callg [] (hc.toR fun b hb => zn_raw hb) hcl ha ?_
  rintro r rfl _ _
  have e : avK [] (fun b => Zn b (.raw u)) t = t := by
    unfold avK
    conv => rhs; rw [← List.map_id t]
    apply List.map_congr_left
    intro p _
    simp
  rw [e]; exact hk
/-- A load through what stands aside. -/
theorem run_read_w {o : Oper} {σ σw : St} (hg : o.guard = none) (hc : c ≠ 0) (hσ : ∀ ρ a w, Iv Γ σ ρ a w → Iv Γ σw ρ a w) (h : stepR Γ.P σw o.op fun lv => RunL Γ ops l (σ.put o.dst lv) K) (hh : σw.h = σ.h) : RunL Γ ops ((o, c) :: l) σ K := by
  intro hd a w ⟨ρ, I⟩
  simp only [List.all_cons, Bool.and_eq_true] at hd
  obtain ⟨lv, v, hk, hv, hrun⟩ := stepR_sound (hσ ρ a w I) h
  rw [hh] at hv
  have I' : Inv Γ (σ.put o.dst lv) (a.put o.dst v) w := ⟨ρ, I.put (dstOk_spec hd.1) hv⟩
  unfold wpP
  split
  · exact ⟨v, .inl ⟨wanted_none hg _, fun w' hx => hrun w' (hx.resolve_left hc)⟩, hk hd.2 _ _ I'⟩
  · rw [if_pos (wanted_none hg _)]
    unfold oN
    rw [hrun w (Ext.refl w)]
    exact ⟨fun _ => Ext.refl w, hk hd.2 _ _ I'⟩
theorem q_ldsa {S i : Nat} {Z : Nat → Prop} (r : List SV) (hg : aggOf Γ.P S = some true) (hx : t.lookup i = some (.av Z (.ptr (.agg r)))) (hs : szOf Γ.P S = some r.length) (hk : RunL Γ ops l ⟨(d, .sv (.agg r)) :: t, h⟩ K) :
    RunL Γ ops ((⟨some d, .load S (.tmp i), ty, ps, af, none⟩, c + 1) :: l) ⟨t, h⟩ K := by
  refine run_read_w (σw := ⟨(i, .sv (.ptr (.agg r))) :: t, h⟩) rfl (by omega) (fun ρ a w I => ?_) ?_ rfl
  · refine ⟨I.dfr, I.size, I.frm, fun k lv hk' => ?_, I.ent, I.new, I.sep, I.out, I.inn⟩
    rw [List.lookup_cons] at hk'
    cases hq : (k == i) with
    | false => simp only [hq] at hk'; exact I.tmp k lv hk'
    | true =>
      have : k = i := by simpa using hq
      subst this
      simp only [hq, Option.some.injEq] at hk'
      subst hk'
      have h1 : Rep w (fun b => Own Γ h ρ b ∨ Z b) (.ptr (.agg r)) (a.tmps.getD k undef) := I.tmp k _ hx
      exact Rep.kp h1 fun b hb hno => ⟨rfl, fun h => hno (.inl h)⟩
  · have e : St.ev ⟨(i, .sv (.ptr (.agg r))) :: t, h⟩ (.tmp i) = .sv (.ptr (.agg r)) := by simp [St.ev, List.lookup_cons]
    simp only [stepR, e]
    exact ⟨_, hg, (fun h => by cases h), fun _ => ⟨r, rfl, hs, hk⟩⟩
/-- A call that writes into a tree that its argument wraps. -/
theorem q_markw {f : Nat} {ts : Array Nat} {Z : Nat → Prop} {s : SV} {v : Value} {k : Int} {R : Int → SV → Prop} (wr : Value → Value)
    (hc : ∀ (w : World) (Z : Nat → Prop) (v : Value), Tree w Z s v → (∀ b, Z b → b < w.heap.size) → Calls Γ.P f #[wr v, .int .i64 k] w fun e w' => ∃ k' s', e = .returned (.int .i64 k') ∧ R k' s' ∧ Chg Z w w' ∧ Tree w' Z s' v)
    (hcl : Calb Γ.P f) (hx : ∀ ρ a w, Iv Γ ⟨t, h⟩ ρ a w → a.eval x = wr v ∧ Rep w (Own Γ h ρ) (.tr Z s v) v) (hy : St.ev ⟨t, h⟩ y = .sv (.raw (.int .i64 k)))
    (hM : ∀ b, Z b → Γ.w0.heap.size ≤ b ∨ Γ.M b) (t' : SV → List (Nat × LV)) (h' : SV → List (Nat × Ent)) (ht : ∀ s', MkT Z s s' v t (t' s')) (hh : ∀ s', MkH Z s s' v h (h' s'))
    (hk : ∀ k' s', R k' s' → RunL Γ ops l ⟨(d, .sv (.raw (.int .i64 k'))) :: t' s', h' s'⟩ K) :
    RunL Γ ops ((⟨some d, .call { callee := .value (.func f), args := #[x, y], argTypes := ts }, ty, ps, af, none⟩, 2) :: l) ⟨t, h⟩ K := by
  obtain ⟨fn, hf', hname, hb⟩ := hcl
  refine run_x (ext := False) rfl (by omega) (fun h => (h rfl).elim) fun a w ρ I hd => ?_
  obtain ⟨hX, hR0⟩ := hx ρ a w I
  have hY : a.eval y = .int .i64 k := ev_raw I hy
  have hrun : (execOp a.eval ⟨some d, .call { callee := .value (.func f), args := #[x, y], argTypes := ts }, ty, ps, af, none⟩).run Γ.P w = .ok (.enter f #[wr v, .int .i64 k]) w := by
    have hF : a.eval (.func f) = .func (.func f) #[] #[] := rfl
    simp [execOp, resolve, hF, Deferred.ofValue, invoke, run_callFunc hf' hname hb, hY, hX]
  unfold XOk oN
  rw [hrun]
  cases hR0 with
  | tr _ _ _ hT hZ =>
    refine (hc w Z v hT fun b hb => (hZ b hb).1).mono ?_
    rintro e w' ⟨k', s', he, hR, hC, hT'⟩
    exact ⟨_, he, _, hk k' s' hR, ⟨ρ, (I.mark hC hT' hZ hM (ht s') (hh s')).put (d := some d) (by simpa [dstOk] using hd) (Rep.raw _)⟩, fun h => h.elim⟩
/-- Nothing, put in order. -/
theorem q_sort0 {f g k n T : Nat} {ts : Array Nat} (hc : ∀ (p : Option Addr) (cap : Nat) (w : World), Calls Γ.P f #[.slice p 0 cap, .func (.func g) #[] #[]] w fun e w' => e = .returned (.tuple #[]) ∧ w' = w) (hcl : Calb Γ.P f) (hx : St.ev ⟨t, h⟩ x = .own k) (hh : h.lookup k = some (.row n T []))
    (hk : RunL Γ ops l ⟨(d, .dead) :: t, h⟩ K) :
    RunL Γ ops ((⟨some d, .call { callee := .value (.func f), args := #[x, .func g], argTypes := ts }, ty, ps, af, none⟩, c + 2) :: l) ⟨t, h⟩ K := by
  obtain ⟨fn, hf', hname, hb⟩ := hcl
  refine run_x (ext := True) rfl (by omega) (fun _ => trivial) fun a w ρ I hd => ?_
  have hX : a.eval x = ρ k := by have := I.ev x; rw [hx] at this; exact this
  obtain ⟨p, cap, hv⟩ : ∃ p cap, ρ k = .slice p 0 cap := by
    obtain ⟨_, xs, vals, hown, _⟩ := I.ent k _ hh
    rcases hown.2 with ⟨h1, _⟩ | ⟨g, cap, cur, h1, _⟩
    · exact ⟨_, _, h1⟩
    · exact ⟨_, _, h1⟩
  have hrun : (execOp a.eval ⟨some d, .call { callee := .value (.func f), args := #[x, .func g], argTypes := ts }, ty, ps, af, none⟩).run Γ.P w = .ok (.enter f #[.slice p 0 cap, .func (.func g) #[] #[]]) w := by
    have hF : a.eval (.func f) = .func (.func f) #[] #[] := rfl
    have hG : a.eval (.func g) = .func (.func g) #[] #[] := rfl
    simp [execOp, resolve, hF, hG, Deferred.ofValue, invoke, run_callFunc hf' hname hb, hX, hv]
  unfold XOk oN
  rw [hrun]
  refine (hc p cap w).mono ?_
  rintro e w' ⟨he, rfl⟩
  exact ⟨_, he, _, hk, ⟨ρ, I.put (d := some d) (lv := .dead) (by simpa [dstOk] using hd) trivial⟩, fun _ => Ext.refl _⟩
theorem ok_nilT {Γ : Ctx} {code : Code} {t : List (Nat × LV)} {h : List (Nat × Ent)} {Q : Exit → St → Prop} {d : Nat} (n : Nat) (hok : Ok Γ code ⟨(d, .sv (.tr (fun _ => False) (.sl n []) (.slice none 0 0))) :: t, h⟩ Q) : Ok Γ code ⟨(d, .sv (.raw (.slice none 0 0))) :: t, h⟩ Q := by
  rintro a w ⟨ρ, I⟩
  refine hok a w ⟨ρ, I.dfr, I.size, I.frm, fun k lv hk => ?_, I.ent, I.new, I.sep, I.out, I.inn⟩
  rw [List.lookup_cons] at hk
  cases hq : (k == d) with
  | false => simp only [hq] at hk; exact I.tmp k lv (by rw [List.lookup_cons, hq]; exact hk)
  | true =>
    have h1 := I.tmp k (.sv (.raw (.slice none 0 0))) (by rw [List.lookup_cons, hq])
    simp only [hq, Option.some.injEq] at hk
    subst hk
    have h2 : a.tmps.getD k undef = .slice none 0 0 := rep_raw' h1
    show Rep w _ _ _
    rw [h2]
    exact .tr _ _ _ (.nil _ _ _ _) fun b hb => hb.elim
end
end Go.Abs
