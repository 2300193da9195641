/- The operations that touch no memory do what is said of them. No condition. -/
import Derived.Test.YtlokejcoikddgaaAbsOps
namespace Go.Abs
open Go Go.RowKit Go.Eager

/-- What is to be shown of one operation. -/
def PureOk (Γ : Ctx) (σ : St) (ρ : Nat → Value) (a : Act) (w : World) (o : Oper) (K : LV → Prop) : Prop :=
  ∃ lv v, K lv ∧ LRep w (Own Γ σ.h ρ) ρ lv v ∧ ∀ w', (execOp a.eval o).run Γ.P w' = .ok (.value v) w'

section
variable {Γ : Ctx} {σ : St} {ρ : Nat → Value} {a : Act} {w : World} {K : LV → Prop}

theorem raw_inv {O : Nat → Prop} {u v : Value} (h : LRep w O ρ (.sv (.raw u)) v) : v = u := by cases h; rfl
theorem ev_raw (I : Iv Γ σ ρ a w) {x : Operand} {u : Value} (h : σ.ev x = .sv (.raw u)) : a.eval x = u := by
  have := I.ev x; rw [h] at this; exact raw_inv this

theorem ok_move (I : Iv Γ σ ρ a w) {o : Oper} (x : Operand) (ho : o.op = .move x ∨ o.op = .assign x) (h : K (σ.ev x)) : PureOk Γ σ ρ a w o K := by
  refine ⟨_, _, h, I.ev x, fun w' => ?_⟩
  rcases ho with ho | ho <;> simp [execOp, ho]

theorem ok_binOp (I : Iv Γ σ ρ a w) {o : Oper} {b : BinOp} {t t' : TypeId} {x y : Operand} (ho : o.op = .binOp b t x y t') (h : stepP Γ.P σ o.op K) : PureOk Γ σ ρ a w o K := by
  rw [ho] at h
  simp only [stepP] at h
  split at h
  · rename_i u v hu hv
    obtain ⟨r, hr, hk⟩ := h
    refine ⟨_, r, hk, Rep.raw r, fun w' => ?_⟩
    have := vBinP_run (P := Γ.P) hr x y w'
    simp only [execOp, ho, ev_raw I hu, ev_raw I hv]
    simp only [Sem.run_bind, this]
    rfl
  · exact h.elim

theorem ok_unOp (I : Iv Γ σ ρ a w) {o : Oper} {b : UnOp} {t : TypeId} {x : Operand} (ho : o.op = .unOp b t x) (h : stepP Γ.P σ o.op K) : PureOk Γ σ ρ a w o K := by
  rw [ho] at h
  simp only [stepP] at h
  split at h
  · rename_i u hu
    obtain ⟨r, hr, hk⟩ := h
    refine ⟨_, r, hk, Rep.raw r, fun w' => ?_⟩
    have := vUn_run (P := Γ.P) hr w'
    simp [execOp, ho, ev_raw I hu, this]
  · exact h.elim

theorem ok_pick (I : Iv Γ σ ρ a w) {o : Oper} {c x y : Operand} (ho : o.op = .pick c x y) (h : stepP Γ.P σ o.op K) : PureOk Γ σ ρ a w o K := by
  rw [ho] at h
  simp only [stepP] at h
  split at h
  · rename_i t ht
    cases t
    · exact ⟨_, _, h.2 rfl, I.ev y, fun w' => by simp [execOp, ho, ev_raw I ht, asBool]⟩
    · exact ⟨_, _, h.1 rfl, I.ev x, fun w' => by simp [execOp, ho, ev_raw I ht, asBool]⟩
  · exact h.elim

theorem ok_nilCheck (I : Iv Γ σ ρ a w) {o : Oper} {x : Operand} (ho : o.op = .nilCheck x) (h : stepP Γ.P σ o.op K) : PureOk Γ σ ρ a w o K := by
  rw [ho] at h
  simp only [stepP] at h
  have hx := I.ev x
  split at h
  · rename_i p hp
    rw [hp] at hx
    generalize hv : a.eval x = v at hx
    cases hx with
    | ptr _ b off u hb hr hz h3 => exact ⟨_, _, h, Rep.ptr p b off u hb hr hz h3, fun w' => by simp [execOp, ho, hv]⟩
  · rename_i k j hp
    rw [hp] at hx
    obtain ⟨b, h1, h2⟩ := hx
    exact ⟨_, _, h, ⟨b, h1, h2⟩, fun w' => by simp [execOp, ho, h2]⟩
  · rename_i k n i j hp
    rw [hp] at hx
    obtain ⟨b, m, c, h1, h2⟩ := hx
    exact ⟨_, _, h, ⟨b, m, c, h1, h2⟩, fun w' => by simp [execOp, ho, h2]⟩
  · exact h.elim

theorem ok_extract (I : Iv Γ σ ρ a w) {o : Oper} {x : Operand} {i : Nat} (ho : o.op = .extract x i) (h : stepP Γ.P σ o.op K) : PureOk Γ σ ρ a w o K := by
  rw [ho] at h
  simp only [stepP] at h
  have hx := I.ev x
  split at h
  · rename_i l hp
    rw [hp] at hx
    obtain ⟨p, hl, hk⟩ := h
    generalize hv : a.eval x = v at hx
    cases hx with
    | tup _ vs hn hr =>
      have hlt : i < vs.size := by rw [hn]; exact (List.getElem?_eq_some_iff.1 hl).1
      have hu : vs[i]? = some vs[i] := Array.getElem?_eq_getElem hlt
      exact ⟨_, _, hk, hr i p _ hl hu, fun w' => by simp [execOp, ho, hv, Instr.extract, hu]⟩
  · exact h.elim

theorem fdOf_spec {P : Program} {s : TypeId} {f off n : Nat} {g : Bool} (h : fdOf P s f = some (off, n, g)) :
    ∃ fs x, P.underlying s = some (.struct fs) ∧ fs[f]? = some x ∧ x.offset = off ∧ szOf P x.type = some n ∧ aggOf P x.type = some g := by
  unfold fdOf at h
  split at h
  · rename_i fs hfs
    split at h
    · rename_i x hx
      split at h
      · rename_i m g' hm hg
        simp only [Option.some.injEq, Prod.mk.injEq] at h
        obtain ⟨rfl, rfl, rfl⟩ := h
        exact ⟨fs, x, hfs, hx, rfl, hm, hg⟩
      · cases h
    · cases h
  · cases h

theorem run_fieldAt {P : Program} {s : TypeId} {f off n : Nat} {g : Bool} (h : fdOf P s f = some (off, n, g)) (hn : 0 < n) (b o : Nat) (w : World) :
    (Instr.fieldAt s (.pointer (some ⟨b, o, none⟩)) f).run P w = .ok (.pointer (some ⟨b, o + off, none⟩)) w := by
  obtain ⟨fs, x, hfs, hx, ho, hm, hg⟩ := fdOf_spec h
  have hadd : (⟨b, o, none⟩ : Addr).add off = ⟨b, o + off, none⟩ := by unfold Addr.add; split <;> simp_all
  have hn' : n ≠ 0 := by omega
  simp [Instr.fieldAt, run_underlying hfs, hx, Instr.sureAddr, fieldPlace, run_sizeOf hm, hn', ho, hadd]

theorem agg_part {O : Nat → Prop} {l : List SV} {vs : Array Value} (h : Rep w O (.agg l) (.agg vs)) (off n : Nat) (hle : off + n ≤ l.length) : Rep w O (.agg ((l.drop off).take n)) (.agg (vs.extract off (off + n))) := by
  cases h with
  | agg _ _ hn h1 hr =>
    refine .agg _ _ (by simp; omega) (fun i u hu => ?_) (fun i s u hs hu => ?_)
    · rw [Array.getElem?_extract] at hu
      split at hu
      · exact h1 _ u hu
      · cases hu
    · rw [Array.getElem?_extract] at hu
      rw [List.getElem?_take] at hs
      split at hs
      · rw [List.getElem?_drop] at hs
        split at hu
        · exact hr (off + i) s u hs hu
        · cases hu
      · cases hs

theorem agg_cell {O : Nat → Prop} {l : List SV} {vs : Array Value} (h : Rep w O (.agg l) (.agg vs)) {i : Nat} {p : SV} (hp : l[i]? = some p) : ∃ u, vs[i]? = some u ∧ Rep w O p u ∧ u.oneCell' = true := by
  cases h with
  | agg _ _ hn h1 hr =>
    have hlt : i < vs.size := by rw [hn]; exact (List.getElem?_eq_some_iff.1 hp).1
    have hu : vs[i]? = some vs[i] := Array.getElem?_eq_getElem hlt
    exact ⟨vs[i], hu, hr i p _ hp hu, h1 i _ hu⟩

theorem agg_inv {O : Nat → Prop} {l : List SV} {v : Value} (h : Rep w O (.agg l) v) : ∃ vs, v = .agg vs ∧ vs.size = l.length := by
  cases h with
  | agg _ vs hn _ _ => exact ⟨vs, rfl, hn⟩

theorem ok_fieldAddr (I : Iv Γ σ ρ a w) {o : Oper} {x : Operand} {s f : Nat} (ho : o.op = .fieldAddr s x f) (h : stepP Γ.P σ o.op K) : PureOk Γ σ ρ a w o K := by
  rw [ho] at h
  simp only [stepP] at h
  have hx := I.ev x
  split at h
  · rename_i l hp
    rw [hp] at hx
    obtain ⟨⟨off, n, g⟩, hf, hn, h0, h1⟩ := h
    generalize hv : a.eval x = v at hx
    cases hx with
    | ptr _ b o' u hb hr hz h3 =>
      obtain ⟨vs, rfl, hsz⟩ := agg_inv hr
      have run : ∀ w', (execOp a.eval o).run Γ.P w' = .ok (.value (.pointer (some ⟨b, o' + off, none⟩))) w' := fun w' => by
        simp [execOp, ho, hv, run_fieldAt hf hn]
      cases g with
      | false =>
        obtain ⟨p, hl, hk⟩ := h0 rfl
        obtain ⟨u, hu, hru, hone⟩ := agg_cell hr hl
        refine ⟨_, _, hk, Rep.ptr p b (o' + off) u hb hru (by rw [oneCell_cells hone]; simp) ?_, run⟩
        intro j u' hj
        rw [oneCell_cells hone] at hj
        have : j = 0 := by cases j with | zero => rfl | succ j => simp at hj
        subst this
        simp at hj; subst hj
        have := h3 off u hu
        simpa using this
      | true =>
        obtain ⟨hle, hk⟩ := h1 rfl
        simp only at hle hk hn
        refine ⟨_, _, hk, Rep.ptr _ b (o' + off) (.agg (vs.extract off (off + n))) hb (agg_part hr off n hle) (by simp [Value.cells]; omega) ?_, run⟩
        intro j u' hj
        simp only [Value.cells] at hj
        rw [Array.getElem?_extract] at hj
        split at hj
        · have := h3 (off + j) u' (by simpa [Value.cells] using hj)
          simpa [Nat.add_assoc] using this
        · cases hj
  · rename_i k j hp
    rw [hp] at hx
    obtain ⟨⟨off, n, g⟩, hf, hn, hk⟩ := h
    obtain ⟨b, h1, h2⟩ := hx
    exact ⟨_, _, hk, ⟨b, h1, rfl⟩, fun w' => by simp [execOp, ho, h2, run_fieldAt hf hn]⟩
  · rename_i k m i j hp
    rw [hp] at hx
    obtain ⟨⟨off, n, g⟩, hf, hn, hk⟩ := h
    obtain ⟨b, n', c, h1, h2⟩ := hx
    exact ⟨_, _, hk, ⟨b, n', c, h1, rfl⟩, fun w' => by simp [execOp, ho, h2, run_fieldAt hf hn, Nat.add_assoc]⟩
  · exact h.elim

theorem run_part_one {P : Program} {t : TypeId} (h : aggOf P t = some false) {cs : Array Value} {off : Nat} {u : Value} (hu : cs[off]? = some u) (w : World) : (part t cs off).run P w = .ok u w := by
  simp [part, run_isAgg h, hu]
theorem run_part_agg {P : Program} {t n : Nat} (h : aggOf P t = some true) (hs : szOf P t = some n) {cs : Array Value} {off : Nat} (w : World) : (part t cs off).run P w = .ok (.agg (cs.extract off (off + n))) w := by
  simp [part, run_isAgg h, run_sizeOf hs]

theorem ok_field (I : Iv Γ σ ρ a w) {o : Oper} {x : Operand} {s f : Nat} (ho : o.op = .field s x f) (h : stepP Γ.P σ o.op K) : PureOk Γ σ ρ a w o K := by
  rw [ho] at h
  simp only [stepP] at h
  have hx := I.ev x
  split at h
  · rename_i l hp
    rw [hp] at hx
    obtain ⟨⟨off, n, g⟩, hf, h0, h1⟩ := h
    obtain ⟨fs, y, hfs, hy, hoff, hm, hg⟩ := fdOf_spec hf
    obtain ⟨vs, hv, hsz⟩ := agg_inv hx
    rw [hv] at hx
    cases g with
    | false =>
      obtain ⟨p, hl, hk⟩ := h0 rfl
      obtain ⟨u, hu, hru, hone⟩ := agg_cell hx hl
      exact ⟨_, u, hk, hru, fun w' => by simp [execOp, ho, hv, Instr.field, run_underlying hfs, hy, asAgg, hoff, run_part_one hg hu]⟩
    | true =>
      obtain ⟨hle, hk⟩ := h1 rfl
      exact ⟨_, _, hk, agg_part hx off n hle, fun w' => by simp [execOp, ho, hv, Instr.field, run_underlying hfs, hy, asAgg, hoff, run_part_agg hg hm]⟩
  · exact h.elim

theorem elOf_spec {P : Program} {t e n : Nat} (h : elOf P t = some (e, n)) : P.underlying t = some (.slice e) ∧ szOf P e = some n := by
  unfold elOf at h
  split at h
  · rename_i e' he
    cases hs : szOf P e' with
    | none => simp [hs] at h
    | some m => simp [hs] at h; obtain ⟨rfl, rfl⟩ := h; exact ⟨he, hs⟩
  · cases h

theorem run_indexAt_sl {P : Program} {t e n : Nat} (h : elOf P t = some (e, n)) (b off len c : Nat) (k : IntKind) (i : Int) (h0 : 0 ≤ i) (h1 : i.toNat < len) (w : World) :
    (Instr.indexAt t (.slice (some ⟨b, off, none⟩) len c) (.int k i)).run P w = .ok (.pointer (some ⟨b, off + i.toNat * n, none⟩)) w := by
  obtain ⟨hu, hs⟩ := elOf_spec h
  have hadd : ∀ m, (⟨b, off, none⟩ : Addr).add m = ⟨b, off + m, none⟩ := fun m => by unfold Addr.add; split <;> simp_all
  have h2 : i < (len : Int) := by omega
  simp [Instr.indexAt, run_underlying hu, asIntOf, h0, h2, run_sizeOf hs, hadd]

theorem ok_indexAddr (I : Iv Γ σ ρ a w) {o : Oper} {x ix : Operand} {t : Nat} (ho : o.op = .indexAddr t x ix) (h : stepP Γ.P σ o.op K) : PureOk Γ σ ρ a w o K := by
  rw [ho] at h
  simp only [stepP] at h
  have hx := I.ev x
  split at h
  · rename_i sz l k i hp hi
    rw [hp] at hx
    obtain ⟨⟨e, n⟩, he, rfl, h0, p, hl, hk⟩ := h
    have hlt := (List.getElem?_eq_some_iff.1 hl).1
    generalize hv : a.eval x = v at hx
    cases hx with
    | nil => simp at hl
    | sl _ _ b off c vals hb hpos hc hz h1 h2 h3 =>
      refine ⟨_, _, hk, Rep.ptr p b (off + i.toNat * n) (vals i.toNat) hb (h1 _ p hl) (by rw [h2 _ hlt]; exact hz) ?_, fun w' => ?_⟩
      · intro j u hu; exact h3 _ hlt j u hu
      · simp [execOp, ho, hv, ev_raw I hi, run_indexAt_sl he b off l.length c k i h0 hlt]
  · rename_i kk k i hp hi
    rw [hp] at hx
    obtain ⟨⟨e, n⟩, he, T, l, hlk, h0, hlt, hk⟩ := h
    have hE := I.ent _ _ hlk
    obtain ⟨hz, xs, vals, hown, hrep⟩ := hE
    rcases hown.2 with ⟨_, hn⟩ | ⟨g, cap, cur, hr, _⟩
    · omega
    · have hx' : a.eval x = ρ kk := hx
      refine ⟨_, .pointer (some ⟨g, i.toNat * n, none⟩), hk, ⟨g, l.length, cap, hr, by simp⟩, fun w' => ?_⟩
      have := run_indexAt_sl (P := Γ.P) he g 0 l.length cap k i h0 hlt w'
      simp [execOp, ho, hx', hr, ev_raw I hi, this]
  · exact h.elim

theorem strOf_spec {P : Program} {t : TypeId} (h : strOf P t = true) : P.underlying t = some .string := by
  unfold strOf at h
  split at h
  · assumption
  · cases h

theorem ok_index (I : Iv Γ σ ρ a w) {o : Oper} {x ix : Operand} {t : Nat} (ho : o.op = .index t x ix) (h : stepP Γ.P σ o.op K) : PureOk Γ σ ρ a w o K := by
  rw [ho] at h
  simp only [stepP] at h
  split at h
  · rename_i s k i hp hi
    obtain ⟨ht, h0, b, hb, hk⟩ := h
    exact ⟨_, _, hk, Rep.raw _, fun w' => by simp [execOp, ho, ev_raw I hp, ev_raw I hi, Instr.index, asIntOf, run_underlying (strOf_spec ht), h0, hb]⟩
  · exact h.elim

theorem bound_run {P : Program} {k : IntKind} {i : Int} {y : Nat} {c : BoundsCode} (h0 : 0 ≤ i) (h1 : i ≤ y) (w : World) : (Instr.sliceBound (.int k i) y c).run P w = .ok i.toNat w := by
  simp [Instr.sliceBound, asIntOf, h0, h1]

theorem bounds_run (I : Iv Γ σ ρ a w) {b : Bool} {lo hi : Option Operand} {n cap : Nat} {l h : Int} (hl : (lo = none ∧ l = 0) ∨ ∃ o k, lo = some o ∧ σ.ev o = .sv (.raw (.int k l)))
    (hh : (hi = none ∧ h = n) ∨ ∃ o k, hi = some o ∧ σ.ev o = .sv (.raw (.int k h))) (h0 : 0 ≤ l) (h1 : l ≤ h) (h2 : h ≤ n) (hc : n ≤ cap) (w' : World) :
    (Instr.sliceBounds b n cap (lo.map a.eval) (hi.map a.eval) none).run Γ.P w' = .ok (l.toNat, h.toNat, cap) w' := by
  have hh0 : 0 ≤ h := by omega
  have hcap : h ≤ (cap : Int) := by omega
  have hlh : l ≤ (h.toNat : Int) := by omega
  rcases hh with ⟨rfl, rfl⟩ | ⟨o, k, rfl, hev⟩ <;> rcases hl with ⟨rfl, rfl⟩ | ⟨o', k', rfl, hev'⟩
  · simp [Instr.sliceBounds]
  · simp [Instr.sliceBounds, ev_raw I hev', bound_run h0 h1]
  · simp [Instr.sliceBounds, ev_raw I hev, bound_run hh0 hcap]
  · simp [Instr.sliceBounds, ev_raw I hev, ev_raw I hev', bound_run hh0 hcap, bound_run h0 hlh]

theorem ok_slice (I : Iv Γ σ ρ a w) {o : Oper} {x : Operand} {t : Nat} {lo hi : Option Operand} (ho : o.op = .slice t x lo hi none) (h : stepP Γ.P σ o.op K) : PureOk Γ σ ρ a w o K := by
  rw [ho] at h
  simp only [stepP] at h
  split at h
  · rename_i s hp
    obtain ⟨ht, l, hh, hl, hhi, h0, h1, h2, hk⟩ := h
    refine ⟨_, _, hk, Rep.raw _, fun w' => ?_⟩
    have hb := bounds_run (b := false) I hl hhi h0 h1 h2 (Nat.le_refl _) w'
    simp [execOp, ho, ev_raw I hp, Instr.sliceAt, Instr.slice, run_underlying (strOf_spec ht), hb]
  · rename_i sz r hp
    obtain ⟨⟨e, n⟩, he, rfl, l, hh, hl, hhi, h0, h1, h2, hk⟩ := h
    obtain ⟨hu, hs⟩ := elOf_spec he
    have hx := I.ev x
    rw [hp] at hx
    generalize hv : a.eval x = v at hx
    cases hx with
    | nil _ ad c =>
      have e1 : l = 0 := by simp at h2; omega
      have e2 : hh = 0 := by simp at h2; omega
      subst e1 e2
      have hb := bounds_run (b := true) (n := 0) (cap := c) I hl hhi (by omega) (by omega) (by simp) (Nat.zero_le _) w
      refine ⟨_, .slice (if c = 0 then ad else ad.map (·.add (0 * n))) 0 (c - 0), hk, ?_, fun w' => ?_⟩
      · simp; exact Rep.nil _ _ _
      · have hb := bounds_run (b := true) (n := 0) (cap := c) I hl hhi (by omega) (by omega) (by simp) (Nat.zero_le _) w'
        simp [execOp, ho, hv, Instr.sliceAt, Instr.slice, run_underlying hu, hb, run_sizeOf hs]
    | sl _ _ b off c vals hb hpos hc hz q1 q2 q3 =>
      have run : ∀ w', (execOp a.eval o).run Γ.P w' = .ok (.value (.slice (if c = l.toNat then some ⟨b, off, none⟩ else some ⟨b, off + l.toNat * n, none⟩) (hh.toNat - l.toNat) (c - l.toNat))) w' := fun w' => by
        have hb := bounds_run (b := true) (n := r.length) (cap := c) I hl hhi h0 h1 h2 hc w'
        have hadd : ∀ m, (⟨b, off, none⟩ : Addr).add m = ⟨b, off + m, none⟩ := fun m => by unfold Addr.add; split <;> simp_all
        simp [execOp, ho, hv, Instr.sliceAt, Instr.slice, run_underlying hu, hb, run_sizeOf hs, hadd]
      refine ⟨_, _, hk, ?_, run⟩
      have hlen : ((r.drop l.toNat).take (hh - l).toNat).length = hh.toNat - l.toNat := by simp; omega
      by_cases hz0 : hh.toNat - l.toNat = 0
      · have : (r.drop l.toNat).take (hh - l).toNat = [] := List.eq_nil_of_length_eq_zero (by omega)
        rw [this, hz0]
        exact Rep.nil _ _ _
      · rw [← hlen, if_neg (by omega)]
        refine Rep.sl n _ b (off + l.toNat * n) _ (fun i => vals (l.toNat + i)) hb (by omega) (by omega) hz ?_ ?_ ?_
        · intro i s hi
          rw [List.getElem?_take] at hi
          split at hi
          · rw [List.getElem?_drop] at hi; exact q1 _ s hi
          · cases hi
        · intro i hi; exact q2 _ (by omega)
        · intro i hi j u hu'
          have := q3 (l.toNat + i) (by omega) j u hu'
          rw [show off + l.toNat * n + i * n + j = off + (l.toNat + i) * n + j by rw [Nat.add_mul]; omega]
          exact this
  · exact h.elim

theorem ok_convert (I : Iv Γ σ ρ a w) {o : Oper} {x : Operand} {s d : Nat} (ho : o.op = .convert s d x) (h : stepP Γ.P σ o.op K) : PureOk Γ σ ρ a w o K := by
  rw [ho] at h
  simp only [stepP] at h
  split at h
  · rename_i k n hp
    obtain ⟨hs, k', hk', hk⟩ := h
    refine ⟨_, _, hk, Rep.raw _, fun w' => ?_⟩
    have hd : Γ.P.underlying d = some (.int k') := by
      unfold inkOf at hk'
      split at hk'
      · rename_i q hq; cases hk'; exact hq
      · cases hk'
    have hs' : ∃ ds, Γ.P.underlying s = some ds := by
      unfold aggOf at hs
      cases hu : Γ.P.underlying s with
      | none => simp [hu] at hs
      | some ds => exact ⟨ds, rfl⟩
    obtain ⟨ds, hds⟩ := hs'
    simp [execOp, ho, ev_raw I hp, convert, run_underlying hds, run_underlying hd, Conv.intToInt]
  · rename_i b hp
    obtain ⟨hs, hd, hk⟩ := h
    exact ⟨_, _, hk, Rep.raw _, fun w' => by simp [execOp, ho, ev_raw I hp, convert, run_underlying (strOf_spec hs), run_underlying (strOf_spec hd)]⟩
  · exact h.elim

theorem elOf_some {P : Program} {t : TypeId} (h : (elOf P t).isSome = true) : ∃ e, P.underlying t = some (.slice e) := by
  unfold elOf at h
  split at h
  · rename_i e he; exact ⟨e, he⟩
  · cases h

theorem arr1 {α : Type} {xs : Array α} {x : α} (h : xs.toList = [x]) : xs = #[x] := by cases xs; simp_all
theorem arr2 {α : Type} {xs : Array α} {x y : α} (h : xs.toList = [x, y]) : xs = #[x, y] := by cases xs; simp_all

theorem ok_len (I : Iv Γ σ ρ a w) {o : Oper} {args : Array Operand} {ts : Array TypeId} (ho : o.op = .call { callee := .builtin .len, args := args, argTypes := ts }) (h : stepP Γ.P σ o.op K) : PureOk Γ σ ρ a w o K := by
  rw [ho] at h
  simp only [stepP] at h
  split at h
  · rename_i x t hx ht
    have e1 := arr1 hx
    have e2 := arr1 ht
    subst e1 e2
    have hX := I.ev x
    split at h
    · rename_i s hp
      exact ⟨_, _, h.2, Rep.raw _, fun w' => by simp [execOp, ho, resolve, invoke, builtin, ev_raw I hp, Builtin.len_, run_underlying (strOf_spec h.1), goInt]⟩
    · rename_i sz l hp
      obtain ⟨e, he⟩ := elOf_some h.1
      rw [hp] at hX
      generalize hv : a.eval x = v at hX
      refine ⟨_, _, h.2, Rep.raw _, fun w' => ?_⟩
      cases hX with
      | nil => simp [execOp, ho, resolve, invoke, builtin, hv, Builtin.len_, run_underlying he, goInt]
      | sl => simp [execOp, ho, resolve, invoke, builtin, hv, Builtin.len_, run_underlying he, goInt]
    · rename_i q n c hp
      obtain ⟨e, he⟩ := elOf_some h.1
      exact ⟨_, _, h.2, Rep.raw _, fun w' => by simp [execOp, ho, resolve, invoke, builtin, ev_raw I hp, Builtin.len_, run_underlying he, goInt]⟩
    · rename_i k hp
      obtain ⟨h1, sz, T, l, hlk, hk⟩ := h
      obtain ⟨e, he⟩ := elOf_some h1
      rw [hp] at hX
      have hX' : a.eval x = ρ k := hX
      obtain ⟨hz, xs, vals, hown, hrep⟩ := I.ent _ _ hlk
      refine ⟨_, _, hk, Rep.raw _, fun w' => ?_⟩
      rcases hown.2 with ⟨hr, hn⟩ | ⟨g, cap, cur, hr, _⟩
      · simp [execOp, ho, resolve, invoke, builtin, hX', hr, hn, Builtin.len_, run_underlying he, goInt]
      · simp [execOp, ho, resolve, invoke, builtin, hX', hr, Builtin.len_, run_underlying he, goInt]
    · exact h.elim
  · exact h.elim

theorem ok_min (I : Iv Γ σ ρ a w) {o : Oper} {args : Array Operand} {ts : Array TypeId} (ho : o.op = .call { callee := .builtin .min, args := args, argTypes := ts }) (h : stepP Γ.P σ o.op K) : PureOk Γ σ ρ a w o K := by
  rw [ho] at h
  simp only [stepP] at h
  split at h
  · rename_i x y hx
    have e1 := arr2 hx
    subst e1
    split at h
    · rename_i k p k' q hp hq
      exact ⟨_, _, h, Rep.raw _, fun w' => by simp [execOp, ho, resolve, invoke, builtin, ev_raw I hp, ev_raw I hq, Builtin.min_, Builtin.min2]⟩
    · exact h.elim
  · exact h.elim

theorem ok_max (I : Iv Γ σ ρ a w) {o : Oper} {args : Array Operand} {ts : Array TypeId} (ho : o.op = .call { callee := .builtin .max, args := args, argTypes := ts }) (h : stepP Γ.P σ o.op K) : PureOk Γ σ ρ a w o K := by
  rw [ho] at h
  simp only [stepP] at h
  split at h
  · rename_i x y hx
    have e1 := arr2 hx
    subst e1
    split at h
    · rename_i k p k' q hp hq
      exact ⟨_, _, h, Rep.raw _, fun w' => by simp [execOp, ho, resolve, invoke, builtin, ev_raw I hp, ev_raw I hq, Builtin.max_, Builtin.max2]⟩
    · exact h.elim
  · exact h.elim

theorem stepP_sound (I : Iv Γ σ ρ a w) {o : Oper} (h : stepP Γ.P σ o.op K) : PureOk Γ σ ρ a w o K := by
  cases ho : o.op with
  | move x => exact ok_move I x (.inl ho) (by rw [ho] at h; exact h)
  | assign x => exact ok_move I x (.inr ho) (by rw [ho] at h; exact h)
  | binOp b t x y t' => exact ok_binOp I ho h
  | unOp b t x => exact ok_unOp I ho h
  | pick c x y => exact ok_pick I ho h
  | nilCheck x => exact ok_nilCheck I ho h
  | extract x i => exact ok_extract I ho h
  | fieldAddr s x f => exact ok_fieldAddr I ho h
  | field s x f => exact ok_field I ho h
  | indexAddr t x ix => exact ok_indexAddr I ho h
  | index t x ix => exact ok_index I ho h
  | slice t x lo hi mx =>
    cases mx with
    | none => exact ok_slice I ho h
    | some m => rw [ho] at h; simp only [stepP] at h
  | convert s d x => exact ok_convert I ho h
  | call c =>
    obtain ⟨cal, args, ts⟩ := c
    cases cal with
    | builtin b =>
      cases b with
      | len => exact ok_len I ho h
      | min => exact ok_min I ho h
      | max => exact ok_max I ho h
      | _ => rw [ho] at h; simp only [stepP] at h
    | _ => rw [ho] at h; simp only [stepP] at h
  | _ => rw [ho] at h; simp only [stepP] at h
end
end Go.Abs
