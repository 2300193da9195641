/- Functions that hold a box; an append of nothing; a row that may be nil; structs put together. No condition. -/
import Derived.Test.YtlokejcoikddgaaAbsTree4
import Derived.Test.YtlokejcoikddgaaAbsLit
namespace Go.Abs
open Go Go.RowKit Go.Eager
set_option linter.unusedVariables false
section
variable {Γ : Ctx} {σ : St} {ρ : Nat → Value} {a : Act} {w : World}
theorem clo_val {w : World} {O : Nat → Prop} {f : Nat} {l : List SV} {v : Value} (h : Rep w O (.clo f l) v) : ∃ vs : Array Value, v = .func (.func f) #[] vs ∧ vs.size = l.length ∧ ∀ (i : Nat) (s : SV) (u : Value), l[i]? = some s → vs[i]? = some u → Rep w O s u := by
  cases h with | clo _ _ vs hn h => exact ⟨vs, rfl, hn, h⟩
theorem ok_callc (I : Iv Γ σ ρ a w) {o : Oper} {f : FuncId} {fn : Func} {y : Operand} {args : Array Operand} {ts : Array TypeId} {sa cs : List SV} {R : SV → Prop} {d : Nat} (ks : List Nat) {K : St → Prop}
    (ho : o.op = .call { callee := .value y, args := args, argTypes := ts }) (hy : σ.ev y = .sv (.clo f cs)) (hd : o.dst = some d) (hdn : d < Γ.n) (hf : Γ.P.funcs[f]? = some fn) (hname : (fn.name == "runtime.NumGoroutine") = false) (hb : fn.body.isNone = false)
    (ha : ArgsOk (args.toList.map σ.ev) sa) (hc : PFnR Γ.P f (sa ++ cs) R) (hk : ∀ r, R r → (∀ b, Zn b r → Γ.w0.heap.size ≤ b) → Apart σ.t σ.h r → K ⟨(d, .sv r) :: avK ks (fun b => Zn b r) σ.t, σ.h⟩) : XOk Γ a w o True K := by
  have hY := I.ev y
  rw [hy] at hY
  obtain ⟨vs, hv, hvn, hvr⟩ := clo_val hY
  have hrun : (execOp a.eval o).run Γ.P w = .ok (.enter f (args.map a.eval ++ vs)) w := by
    simp [execOp, ho, resolve, hv, Deferred.ofValue, invoke, run_callFunc hf hname hb]
  have hsa : args.size = sa.length := by have := argsOk_len ha; simpa using this
  have hsz : (args.map a.eval ++ vs).size = (sa ++ cs).length := by simp [hsa, hvn]
  unfold XOk oN
  rw [hrun]
  refine (hc w (Own Γ σ.h ρ) (args.map a.eval ++ vs) (fun b hb => blk_lt I hb) hsz fun i s u hi' hu => ?_).mono ?_
  · rcases Nat.lt_or_ge i sa.length with hlt | hge
    · rw [List.getElem?_append_left hlt] at hi'
      rw [Array.getElem?_append_left (by simp; omega)] at hu
      obtain ⟨lv, h3, h4⟩ := argsOk_get ha hi'
      rw [Array.getElem?_map] at hu
      rw [List.getElem?_map] at h3
      cases hx : args[i]? with
      | none => simp [hx] at hu
      | some x =>
        have hx' : args.toList[i]? = some x := by simpa using hx
        simp only [hx', Option.map_some, Option.some.injEq] at h3
        simp only [hx, Option.map_some, Option.some.injEq] at hu
        subst hu h3
        exact h4.rep (I.ev x)
    · rw [List.getElem?_append_right hge] at hi'
      rw [Array.getElem?_append_right (by simp; omega)] at hu
      refine hvr (i - sa.length) s u hi' ?_
      rw [← hu]
      congr 1
      simp [hsa]
  · rintro e w' ⟨v, r, he, hx, hR, hn, hv⟩
    have I1 := I.ext hx
    have hkp : ∀ {O1 : Nat → Prop}, Kp w O1 w' (fun b => O1 b ∨ Zn b r) := by
      intro O1 b hlt hno
      exact ⟨hx.block b hlt, fun h => h.elim hno fun h => by have := hn b h; omega⟩
    have I2 : Iv Γ ⟨avK ks (fun b => Zn b r) σ.t, σ.h⟩ ρ a w' := by
      refine ⟨I1.dfr, I1.size, I1.frm, fun k lv hk => ?_, I1.ent, I1.new, I1.sep, I1.out, I1.inn⟩
      rcases avK_lookup hk with h | ⟨s, h, rfl⟩ | ⟨Z', s, h, rfl⟩
      · exact I1.tmp k lv h
      · exact Rep.kp (I.tmp k _ h) hkp
      · have h1 : Rep w (fun b => Own Γ σ.h ρ b ∨ Z' b) s (a.tmps.getD k undef) := I.tmp k _ h
        refine Rep.kp h1 fun b hlt hno => ⟨hx.block b hlt, ?_⟩
        rintro (h2 | h2 | h2)
        · exact hno (.inl h2)
        · exact hno (.inr h2)
        · have := hn b h2; omega
    refine ⟨v, he, _, hk r hR (fun b hb => Nat.le_trans I.frm.size (hn b hb)) (apart_of I hn), ⟨ρ, ?_⟩, fun _ => hx⟩
    rw [hd]
    exact I2.put (d := some d) (lv := .sv r) (by simpa using hdn) hv
theorem avK_nil (Z : Nat → Prop) (t : List (Nat × LV)) : avK [] Z t = t := by
  unfold avK
  conv => rhs; rw [← List.map_id t]
  apply List.map_congr_left
  intro p _
  simp
end
section
variable {Γ : Ctx} {ops : Array Oper} {l : List (Oper × Nat)} {t : List (Nat × LV)} {h : List (Nat × Ent)} {K : St → Prop} {c d ty : Nat} {ps : String} {af : Array Edge} {x y : Operand}
/-- A call whose arguments may stand aside; a plain value is handed back. -/
theorem q_callq {f : Nat} {args : Array Operand} {ts : Array Nat} {sa : List SV} {r : SV} (hz : ∀ b, ¬ Zn b r) (hc : PFn Γ.P f sa r) (hcl : Calb Γ.P f) (ha : ArgsOk (args.toList.map (St.ev ⟨t, h⟩)) sa)
    (hk : RunL Γ ops l ⟨(d, .sv r) :: t, h⟩ K) :
    RunL Γ ops ((⟨some d, .call { callee := .value (.func f), args := args, argTypes := ts }, ty, ps, af, none⟩, c + 2) :: l) ⟨t, h⟩ K := by
  refine q_callg [] (hc.toR hz) hcl ha ?_
  rintro r' rfl _ _
  rw [avK_nil]; exact hk
/-- A function that holds one thing. -/
theorem q_mkf1 {f : Nat} {s : SV} (hx : St.ev ⟨t, h⟩ x = .sv s) (hk : RunL Γ ops l ⟨(d, .sv (.clo f [s])) :: t, h⟩ K) :
    RunL Γ ops ((⟨some d, .makeFunc (.func f) #[] #[x], ty, ps, af, none⟩, c + 2) :: l) ⟨t, h⟩ K := by
  refine run_x (ext := True) rfl (by omega) (fun _ => trivial) fun a w ρ I hd => ?_
  have hX := I.ev x
  rw [hx] at hX
  have run : (execOp a.eval ⟨some d, .makeFunc (.func f) #[] #[x], ty, ps, af, none⟩).run Γ.P w = .ok (.value (.func (.func f) #[] #[a.eval x])) w := by
    simp [execOp, Instr.makeFunc]
  unfold XOk oN
  rw [run]
  refine ⟨_, hk, ⟨ρ, I.put (d := some d) (by simpa [dstOk] using hd) (Rep.clo f _ _ rfl fun i s' u hs hu => ?_)⟩, fun _ => Ext.refl w⟩
  match i, hs, hu with
  | 0, hs, hu => simp at hs hu; subst hs hu; exact hX
  | i + 1, hs, hu => simp at hs
/-- A function that holds some things. -/
theorem q_mkf {f : Nat} {xs : Array Operand} {ss : List SV} (hx : xs.toList.map (St.ev ⟨t, h⟩) = ss.map LV.sv) (hk : RunL Γ ops l ⟨(d, .sv (.clo f ss)) :: t, h⟩ K) :
    RunL Γ ops ((⟨some d, .makeFunc (.func f) #[] xs, ty, ps, af, none⟩, c + 2) :: l) ⟨t, h⟩ K := by
  refine run_x (ext := True) rfl (by omega) (fun _ => trivial) fun a w ρ I hd => ?_
  have run : (execOp a.eval ⟨some d, .makeFunc (.func f) #[] xs, ty, ps, af, none⟩).run Γ.P w = .ok (.value (.func (.func f) #[] (xs.map a.eval))) w := by
    simp [execOp, Instr.makeFunc]
  have hl : xs.size = ss.length := by have := congrArg List.length hx; simpa using this
  unfold XOk oN
  rw [run]
  refine ⟨_, hk, ⟨ρ, I.put (d := some d) (by simpa [dstOk] using hd) (Rep.clo f _ _ (by simp [hl]) fun i s' u hs hu => ?_)⟩, fun _ => Ext.refl w⟩
  rw [Array.getElem?_map] at hu
  cases hq : xs[i]? with
  | none => simp [hq] at hu
  | some q =>
    simp only [hq, Option.map_some, Option.some.injEq] at hu
    subst hu
    have h3 : (xs.toList.map (St.ev ⟨t, h⟩))[i]? = some (.sv s') := by rw [hx, List.getElem?_map, hs]; rfl
    rw [List.getElem?_map, show xs.toList[i]? = some q by simpa using hq] at h3
    simp only [Option.map_some, Option.some.injEq] at h3
    have := I.ev q
    rw [h3] at this
    exact this
/-- A call of such a function. -/
theorem q_callc {f : Nat} {args : Array Operand} {ts : Array Nat} {sa cs : List SV} {R : SV → Prop} (hc : PFnR Γ.P f (sa ++ cs) R) (hcl : Calb Γ.P f) (hy : St.ev ⟨t, h⟩ y = .sv (.clo f cs)) (ha : ArgsOk (args.toList.map (St.ev ⟨t, h⟩)) sa)
    (hk : ∀ r, R r → (∀ b, Zn b r → Γ.w0.heap.size ≤ b) → Apart t h r → RunL Γ ops l ⟨(d, .sv r) :: t, h⟩ K) :
    RunL Γ ops ((⟨some d, .call { callee := .value y, args := args, argTypes := ts }, ty, ps, af, none⟩, c + 2) :: l) ⟨t, h⟩ K := by
  obtain ⟨_, hf', hname, hb⟩ := hcl
  refine run_x (ext := True) rfl (by omega) (fun _ => trivial) fun _ _ _ I hd => ok_callc I [] rfl hy rfl (by simpa [dstOk] using hd) hf' hname hb ha hc fun r h1 h2 h3 => ?_
  rw [avK_nil]
  exact hk r h1 h2 h3
theorem q_callcp {f : Nat} {args : Array Operand} {ts : Array Nat} {sa cs : List SV} {u : Value} (hc : PFn Γ.P f (sa ++ cs) (.raw u)) (hcl : Calb Γ.P f) (hy : St.ev ⟨t, h⟩ y = .sv (.clo f cs)) (ha : ArgsOk (args.toList.map (St.ev ⟨t, h⟩)) sa)
    (hk : RunL Γ ops l ⟨(d, .sv (.raw u)) :: t, h⟩ K) :
    RunL Γ ops ((⟨some d, .call { callee := .value y, args := args, argTypes := ts }, ty, ps, af, none⟩, c + 2) :: l) ⟨t, h⟩ K :=
  q_callc (hc.toR fun b hb => zn_raw hb) hcl hy ha fun r hr _ _ => by subst hr; exact hk
/-- Is it nil? -/
theorem q_eqn {n S e t2 : Nat} {r : List SV} (hu : Γ.P.underlying S = some (.slice e)) (hx : St.ev ⟨t, h⟩ x = .sv (.sl n r)) (hk : ∀ b : Bool, (b = true → r = []) → RunL Γ ops l ⟨(d, .sv (.raw (.bool b))) :: t, h⟩ K) :
    RunL Γ ops ((⟨some d, .binOp .eql S x (.const (.slice none 0 0)) t2, ty, ps, af, none⟩, c + 2) :: l) ⟨t, h⟩ K := by
  refine run_x (ext := True) rfl (by omega) (fun _ => trivial) fun a w ρ I hd => ?_
  have hX := I.ev x
  rw [hx] at hX
  obtain ⟨p, m, cc, hv⟩ := rep_sl hX
  have run : (execOp a.eval ⟨some d, .binOp .eql S x (.const (.slice none 0 0)) t2, ty, ps, af, none⟩).run Γ.P w = .ok (.value (.bool p.isNone)) w := by
    have hc2 : a.eval (.const (.slice none 0 0)) = .slice none 0 0 := rfl
    have hun : (underlying S).run Γ.P w = .ok (.slice e) w := by simp [underlying, hu]
    have : (Op.equal S (.slice p m cc) (.slice none 0 0)).run Γ.P w = .ok p.isNone w := by
      unfold Op.equal
      rw [show Op.maxDepth = (Op.maxDepth - 1) + 1 from rfl, Op.equalIn]
      cases p <;> simp [hun]
    have hg : (eqGuard .eql S x (.const (.slice none 0 0)) (.slice p m cc) (.slice none 0 0)).run Γ.P w = .ok () w := by simp [eqGuard]
    simp [execOp, hv, hc2, hg, binOp, this]
  unfold XOk oN
  rw [run]
  refine ⟨_, hk p.isNone (fun hp => ?_), ⟨ρ, I.put (d := some d) (by simpa [dstOk] using hd) (Rep.raw _)⟩, fun _ => Ext.refl w⟩
  rw [hv] at hX
  cases hX with
  | nil => rfl
  | sl => simp at hp
/-- A row of nothing. -/
theorem q_lito0 {S e n : Nat} (z : Value) (he : elOf Γ.P S = some (e, n)) (hz : zeroOf Γ.P e = some z) (hn : 0 < n) (hf : St.free ⟨t, h⟩ d = true) (hi : Γ.inn d = none)
    (hk : RunL Γ ops l ⟨(d, .own d) :: t, ins d (.row n e []) h⟩ K) : RunL Γ ops ((⟨some d, .buildSlice S 0 #[], ty, ps, af, none⟩, c + 2) :: l) ⟨t, h⟩ K :=
  run_x (ext := True) rfl (by omega) (fun _ => trivial) fun _ _ _ I hd => ok_buildSliceO (l := []) I rfl rfl (by simpa [dstOk] using hd) hf hi he hz hn rfl (by omega) rfl rfl (by simp) hk
/-- An append of nothing. -/
theorem q_appE {S e n k : Nat} (he : elOf Γ.P S = some (e, n)) (hx : St.ev ⟨t, h⟩ x = .own k) (hh : h.lookup k = some (.row n e [])) (hy : St.ev ⟨t, h⟩ y = .sv (.sl n []))
    (hk : RunL Γ ops l ⟨(d, .own k) :: t, h⟩ K) :
    RunL Γ ops ((⟨some d, .call { callee := .builtin .append, args := #[x, y], argTypes := #[S, S] }, ty, ps, af, none⟩, 2) :: l) ⟨t, h⟩ K := by
  refine run_x (ext := False) rfl (by omega) (fun h => (h rfl).elim) fun a w ρ I hd => ?_
  have hX : a.eval x = ρ k := by have := I.ev x; rw [hx] at this; exact this
  have hY := I.ev y
  rw [hy] at hY
  obtain ⟨hu, hs⟩ := elOf_spec he
  obtain ⟨hz0, xs, vals0, hown, hrep⟩ := I.ent k _ hh
  have hS : (sizeOf e).run Γ.P w = .ok n w := by
    unfold szOf at hs
    cases hi : Γ.P.info? e with
    | none => simp [hi] at hs
    | some it => simp [hi] at hs; simp [sizeOf, typeInfo, hi, hs]
  have hU : (underlying S).run Γ.P w = .ok (.slice e) w := by simp [underlying, hu]
  obtain ⟨p, cap, hρ⟩ : ∃ p cap, ρ k = .slice p 0 cap := by
    rcases hown.2 with ⟨h1, _⟩ | ⟨g, cap, cur, h1, _⟩
    · exact ⟨_, _, h1⟩
    · exact ⟨_, _, h1⟩
  obtain ⟨q, cc, hyv⟩ : ∃ q cc, a.eval y = .slice q 0 cc := by
    obtain ⟨q, m, cc, hv⟩ := rep_sl hY
    rw [hv] at hY
    cases hY with
    | nil => exact ⟨_, _, hv⟩
    | sl _ _ _ _ _ _ _ hl => simp at hl
  have run : (execOp a.eval ⟨some d, .call { callee := .builtin .append, args := #[x, y], argTypes := #[S, S] }, ty, ps, af, none⟩).run Γ.P w = .ok (.value (ρ k)) w := by
    have happ : (Builtin.append_ #[S, S] ty #[ρ k, .slice q 0 cc]).run Γ.P w = .ok (ρ k) w := by
      rw [hρ]
      unfold Builtin.append_
      cases p <;> cases q <;> simp [hU, hS, Builtin.lenOf, Builtin.firstCells, loadCells, loadCellsFrom, storeCells]
    simp [execOp, resolve, invoke, builtin, hX, hyv, happ]
  unfold XOk oN
  rw [run]
  exact ⟨_, hk, ⟨ρ, I.put (d := some d) (lv := .own k) (by simpa [dstOk] using hd) rfl⟩, fun _ => Ext.refl w⟩
end
/-- As ok_treed: and it is none of what stands in slots. -/
theorem ok_treed2 {Γ : Ctx} {code : Code} {t : List (Nat × LV)} {h : List (Nat × Ent)} {Q : Exit → St → Prop} {k n T : Nat} {rs ss : List SV} (hk : h.lookup k = some (.row n T rs)) (hl : rs.length = ss.length) (hg : ∀ (i : Nat) (r s : SV), rs[i]? = some r → ss[i]? = some s → Gd r s)
    (hap : ∀ (i j b : Nat) (ri rj : SV), rs[i]? = some ri → rs[j]? = some rj → Zn b ri → Zn b rj → i = j) (hzn : ∀ r ∈ rs, ∀ b, Zn b r → Γ.w0.heap.size ≤ b ∨ Γ.M b)
    (hok : ∀ (Z : Nat → Prop) (v : Value), (∀ b, Z b → Γ.w0.heap.size ≤ b ∨ Γ.M b) → (∀ (k' : Nat) (r' : SV) (b : Nat), t.lookup k' = some (.sv r') → Zn b r' → Z b → ∃ r ∈ rs, Zn b r) → Ok Γ code ⟨tdT k (.tr Z (.sl n ss) v) t, dropH k h⟩ Q) : Ok Γ code ⟨t, h⟩ Q := by
  rintro a w ⟨ρ, I⟩
  have hT := row_tree I hk hl hg hap
  have hZb : ∀ b, (blk (ρ k) = some b ∨ ∃ r ∈ rs, Zn b r) → (Γ.w0.heap.size ≤ b ∨ Γ.M b) ∧ b < w.heap.size ∧ ¬ Own Γ (dropH k h) ρ b := by
    rintro b (hb | ⟨r, hr, hb⟩)
    · refine ⟨(I.new k _ b hk hb).1, (I.new k _ b hk hb).2, ?_⟩
      rintro (hO | ⟨k1, e1, hk1, hb1⟩)
      · have := I.out b hO
        rcases (I.new k _ b hk hb).1 with h1 | h1
        · omega
        · exact this.2 h1
      · obtain ⟨h1, h2⟩ := dropH_lookup hk1
        exact h2 (I.sep k1 k e1 _ b h1 hk hb1 hb)
    · obtain ⟨_, xs, vals, _, hel⟩ := I.ent k _ hk
      obtain ⟨i, hi⟩ := List.getElem?_of_mem hr
      have h1 := Rep.zn hb (hel i r hi).1
      refine ⟨hzn r hr b hb, h1.1, ?_⟩
      rintro (hO | ⟨k1, e1, hk1, hb1⟩)
      · exact h1.2 (.inl hO)
      · exact h1.2 (.inr ⟨k1, e1, (dropH_lookup hk1).1, hb1⟩)
  refine hok (fun b => blk (ρ k) = some b ∨ ∃ r ∈ rs, Zn b r) (ρ k) (fun b hb => (hZb b hb).1) (fun k' r' b hk' hb hZ => ?_) a w ⟨ρ, ?_⟩
  · rcases hZ with hZ | hZ
    · exact ((Rep.zn hb (I.tmp k' _ hk')).2 (.inr ⟨k, _, hk, hZ⟩)).elim
    · exact hZ
  have J : Iv Γ ⟨t, dropH k h⟩ ρ a w := I.sub (fun _ _ h => h) fun k e h => (dropH_lookup h).1
  refine ⟨J.dfr, J.size, J.frm, ?_, J.ent, J.new, J.sep, J.out, J.inn⟩
  intro t' lv h'
  rcases tdT_lookup h' with h'' | ⟨h'', rfl⟩
  · exact J.tmp t' lv h''
  · have h1 : a.tmps.getD t' undef = ρ k := I.tmp t' _ h''
    show Rep w _ _ _
    rw [h1]
    exact .tr _ _ _ hT fun b hb => (hZb b hb).2
/-- How a value of one cell looks. -/
def shp : SV → Value → Prop
  | .raw u, v => v = u
  | .sl _ _, v => ∃ p n c, v = .slice p n c
  | .tr _ (.sl _ _) u, v => v = u ∧ ∃ p n c, v = .slice p n c
  | _, _ => False
def shpOk : SV → Bool
  | .raw u => u.oneCell'
  | .sl _ _ => true
  | .tr _ (.sl _ _) _ => true
  | _ => false
theorem shp_of {w : World} {O : Nat → Prop} {s : SV} {v : Value} (h : Rep w O s v) (h1 : shpOk s = true) : shp s v := by
  cases h with
  | raw => rfl
  | nil => exact ⟨_, _, _, rfl⟩
  | sl => exact ⟨_, _, _, rfl⟩
  | agg => cases h1
  | tup => cases h1
  | ptr => cases h1
  | clo => cases h1
  | tr Z s v hT hZ =>
    cases hT with
    | raw => cases h1
    | agg => cases h1
    | nil => exact ⟨rfl, _, _, _, rfl⟩
    | sl => exact ⟨rfl, _, _, _, rfl⟩
def ShL : List SV → List Value → Prop
  | [], [] => True
  | s :: ss, v :: vs => shp s v ∧ ShL ss vs
  | _, _ => False
/-- A struct put together of these. -/
def BL (P : Program) (S : Nat) (ss : List SV) : Prop := ∀ vs : List Value, ShL ss vs → P.built S (vs.zipIdx.map fun p => (p.2, p.1)) = some vs.toArray
theorem shL_of {w : World} {O : Nat → Prop} : ∀ {ss : List SV} {vs : List Value}, ss.length = vs.length → (∀ (i : Nat) (s : SV) (v : Value), ss[i]? = some s → vs[i]? = some v → Rep w O s v) → ss.all shpOk = true → ShL ss vs
  | [], [], _, _, _ => trivial
  | [], _ :: _, h, _, _ => by simp at h
  | _ :: _, [], h, _, _ => by simp at h
  | s :: ss, v :: vs, h, hr, ha => by
    simp only [List.all_cons, Bool.and_eq_true] at ha
    exact ⟨shp_of (hr 0 s v rfl rfl) ha.1, shL_of (by simpa using h) (fun i s v hs hv => hr (i + 1) s v (by simpa using hs) (by simpa using hv)) ha.2⟩
theorem shL_one {w : World} {O : Nat → Prop} {s : SV} {v : Value} (h : Rep w O s v) (h1 : shpOk s = true) : s.one = true := by
  cases h with
  | raw => exact h1
  | nil => rfl
  | sl => rfl
  | agg => cases h1
  | tup => cases h1
  | ptr => cases h1
  | clo => cases h1
  | tr Z s v hT hZ => cases hT <;> first | rfl | cases h1
section
variable {Γ : Ctx} {ops : Array Oper} {l : List (Oper × Nat)} {t : List (Nat × LV)} {h : List (Nat × Ent)} {K : St → Prop} {c d ty : Nat} {ps : String} {af : Array Edge} {x y : Operand}
theorem q_bld {S : Nat} {parts : Array (Nat × Operand)} (ss : List SV) (hb : BL Γ.P S ss) (hi : parts.toList.map (·.1) = List.range ss.length) (hx : parts.toList.map (fun p => St.ev ⟨t, h⟩ p.2) = ss.map LV.sv) (ha : ss.all shpOk = true)
    (hk : RunL Γ ops l ⟨(d, .sv (.agg ss)) :: t, h⟩ K) : RunL Γ ops ((⟨some d, .build S parts, ty, ps, af, none⟩, c + 2) :: l) ⟨t, h⟩ K := by
  refine run_x (ext := True) rfl (by omega) (fun _ => trivial) fun a w ρ I hd => ?_
  have hlen : parts.toList.length = ss.length := by have := congrArg List.length hx; simpa using this
  let vs := parts.toList.map fun p => a.eval p.2
  have hvs : ∀ (i : Nat) (s : SV) (v : Value), ss[i]? = some s → vs[i]? = some v → Rep w (Own Γ h ρ) s v := by
    intro i s v hs hv
    have h2 : (parts.toList.map fun p => St.ev ⟨t, h⟩ p.2)[i]? = some (.sv s) := by rw [hx, List.getElem?_map, hs]; rfl
    rw [List.getElem?_map] at h2
    simp only [vs, List.getElem?_map] at hv
    cases hp : parts.toList[i]? with
    | none => simp [hp] at h2
    | some p =>
      simp only [hp, Option.map_some, Option.some.injEq] at h2 hv
      subst hv
      have := I.ev p.2
      rw [h2] at this
      exact this
  have hsh := shL_of (vs := vs) (by simp [vs]; simpa using hlen.symm) hvs ha
  have hparts : (parts.map fun p => (p.1, a.eval p.2)).toList = vs.zipIdx.map fun p => (p.2, p.1) := by
    rw [Array.toList_map]
    apply List.ext_getElem?
    intro i
    simp only [vs, List.getElem?_map, List.getElem?_zipIdx]
    cases hp : parts.toList[i]? with
    | none => simp
    | some p =>
      have h3 : (parts.toList.map (·.1))[i]? = some p.1 := by rw [List.getElem?_map, hp]; rfl
      rw [hi] at h3
      obtain ⟨hlt, he⟩ := List.getElem?_eq_some_iff.1 h3
      simp only [List.getElem_range] at he
      simp [← he]
  have run : (execOp a.eval ⟨some d, .build S parts, ty, ps, af, none⟩).run Γ.P w = .ok (.value (.agg vs.toArray)) w := by
    have h4 := hb vs hsh
    rw [← hparts] at h4
    have := run_build (P := Γ.P) w S (parts.map fun p => (p.1, a.eval p.2)) _ h4
    simp [execOp, this]
  unfold XOk oN
  rw [run]
  refine ⟨_, hk, ⟨ρ, I.put (d := some d) (by simpa [dstOk] using hd) (Rep.agg _ _ (by simp [vs]; simpa using hlen) (fun j u hu => ?_) (fun j s u hs hu => ?_))⟩, fun _ => Ext.refl w⟩
  · have hu' : vs[j]? = some u := by simpa using hu
    obtain ⟨s, hs⟩ : ∃ s, ss[j]? = some s := by
      have : j < vs.length := (List.getElem?_eq_some_iff.1 hu').1
      exact ⟨_, List.getElem?_eq_getElem (by simp [vs] at this; have := hlen; simp at this; omega)⟩
    have hr := hvs j s u hs hu'
    exact hr.oneCell (shL_one hr (List.all_eq_true.1 ha s (List.mem_of_getElem? hs)))
  · exact hvs j s u hs (by simpa using hu)
end
end Go.Abs
