/- Calls that hand back a row of their own; the rest of a row of ours, and a copy within it; a row that the library puts in order. No condition. -/
import Derived.Test.YtlokejcoikddgaaAbsJoin
import Derived.Laws.CopyRow
import Derived.Lib.OwnBridge
namespace Go.Abs
open Go Go.RowKit Go.Eager
set_option linter.unusedVariables false

/-- A function that hands back a row of its own. -/
def PFnO (P : Program) (f : FuncId) (args : List SV) (n T : Nat) (l : List SV) : Prop :=
  ∀ (w : World) (O : Nat → Prop) (vs : Array Value), (∀ b, O b → b < w.heap.size) → vs.size = args.length →
    (∀ (i : Nat) (s : SV) (u : Value), args[i]? = some s → vs[i]? = some u → Rep w O s u) →
    Calls P f vs w fun e w' => ∃ v, e = .returned v ∧ Ext w w' ∧ 0 < n ∧ ∃ (xs : List Value) (vals : Nat → Value), w'.ownsRow w.heap.size T n v l.length xs ∧
      ∀ (i : Nat) (s : SV), l[i]? = some s → Rep w' (fun b => O b ∨ blk v = some b) s (vals i) ∧ (vals i).cells.size = n ∧ ∀ (j : Nat) (u : Value), (vals i).cells[j]? = some u → xs[i * n + j]? = some u

section
variable {Γ : Ctx} {σ : St} {ρ : Nat → Value} {a : Act} {w : World}
theorem owns_zero {w : World} {B e n : Nat} {v : Value} {m : Nat} {xs : List Value} (h : w.ownsRow B e n v m xs) : w.ownsRow 0 e n v m xs :=
  ⟨h.1, h.2.imp id fun ⟨g, cap, cur, h1, _, h3⟩ => ⟨g, cap, cur, h1, Nat.zero_le _, h3⟩⟩
theorem owns_blk {w : World} {B e n : Nat} {v : Value} {m b : Nat} {xs : List Value} (h : w.ownsRow B e n v m xs) (hb : blk v = some b) : B ≤ b ∧ b < w.heap.size := by
  rcases h.2 with ⟨rfl, _⟩ | ⟨g, cap, cur, rfl, h2, h3, _⟩
  · simp [blk] at hb
  · simp [blk] at hb; subst hb
    exact ⟨h2, (Array.getElem?_eq_some_iff.1 h3).1⟩
theorem ok_callo (I : Iv Γ σ ρ a w) {o : Oper} {f : FuncId} {fn : Func} {args : Array Operand} {ts : Array TypeId} {sa : List SV} {n T d : Nat} {l : List SV} {K : St → Prop}
    (ho : o.op = .call { callee := .value (.func f), args := args, argTypes := ts }) (hd : o.dst = some d) (hdn : d < Γ.n) (hf : Γ.P.funcs[f]? = some fn) (hname : (fn.name == "runtime.NumGoroutine") = false) (hb : fn.body.isNone = false)
    (ha : args.toList.map σ.ev = sa.map LV.sv) (hfr : σ.free d = true) (hi : Γ.inn d = none) (hc : PFnO Γ.P f sa n T l) (hk : K ⟨(d, .own d) :: σ.t, ins d (.row n T l) σ.h⟩) : XOk Γ a w o True K := by
  have hrun : (execOp a.eval o).run Γ.P w = .ok (.enter f (args.map a.eval)) w := by
    have hY : a.eval (.func f) = .func (.func f) #[] #[] := rfl
    simp [execOp, ho, resolve, hY, Deferred.ofValue, invoke, run_callFunc hf hname hb]
  have hsz : (args.map a.eval).size = sa.length := by have := congrArg List.length ha; simp at this; simp [this]
  obtain ⟨f1, f2, f3⟩ := free_spec hfr
  unfold XOk oN
  rw [hrun]
  refine (hc w (Own Γ σ.h ρ) (args.map a.eval) (fun b hb => blk_lt I hb) hsz fun i s u hi' hu => ?_).mono ?_
  · have h3 : (args.toList.map σ.ev)[i]? = some (.sv s) := by rw [ha, List.getElem?_map, hi']; rfl
    rw [Array.getElem?_map] at hu
    rw [List.getElem?_map] at h3
    cases hx : args[i]? with
    | none => simp [hx] at hu
    | some x =>
      have hx' : args.toList[i]? = some x := by simpa using hx
      simp only [hx', Option.map_some, Option.some.injEq] at h3
      simp only [hx, Option.map_some, Option.some.injEq] at hu
      subst hu
      have := I.ev x
      rw [h3] at this
      exact this
  · rintro e w' ⟨v, he, hx, hn, xs, vals, hrow, hel⟩
    have I' : Iv Γ ⟨σ.t, ins d (.row n T l) σ.h⟩ (upd ρ d v) a w' := I.heap (fun t lv h => .inl h) (.inr ⟨f1, fun k1 e1 _ => f2 k1 e1⟩) ⟨hx.os, hx.tape, hx.output, hx.size⟩ (fun b hb _ => hx.block b hb)
      (fun b hb => ⟨(owns_blk hrow hb).2, .inl (owns_blk hrow hb).1⟩) (by rw [hi]; intro v h; cases h)
      ⟨hn, xs, vals, by rw [upd_at]; exact owns_zero hrow, fun i s his => by
        obtain ⟨h1, h2, h3⟩ := hel i s his
        refine ⟨Rep.kp h1 (fun b hb hno => ⟨rfl, ?_⟩), h2, h3⟩
        rintro (hO | ⟨k1, e1, hk1, hb1⟩)
        · exact hno (.inl (.inl hO))
        · rw [lookup_ins] at hk1
          by_cases hkk : k1 = d
          · subst hkk; rw [upd_at] at hb1; exact hno (.inr hb1)
          · rw [if_neg hkk] at hk1; rw [upd_ne _ _ hkk] at hb1; exact hno (.inl (.inr ⟨k1, e1, hk1, hb1⟩))⟩
    refine ⟨v, he, _, hk, ⟨upd ρ d v, ?_⟩, fun _ => hx⟩
    rw [hd]
    exact I'.put (d := some d) (lv := .own d) (v := v) (by simpa using hdn) (upd_at _ _ _).symm
/-- A row of ours, turned in place: the entry anew. -/
theorem Iv.turn (I : Iv Γ σ ρ a w) {k : Nat} {e e0 : Ent} {w' : World} (hk : σ.h.lookup k = some e0) (ho : w'.os = w.os ∧ w'.tape = w.tape ∧ w'.output = w.output ∧ w.heap.size ≤ w'.heap.size)
    (hw : ∀ b, b < w.heap.size → blk (ρ k) ≠ some b → w'.heap[b]? = w.heap[b]?) (he : ERep w' (Own Γ (ins k e σ.h) ρ) ρ k e) : Iv Γ ⟨σ.t, ins k e σ.h⟩ ρ a w' := by
  have h := I.heap (t' := σ.t) (k := k) (e := e) (v' := ρ k) (w' := w') (fun t lv h => .inl h) (.inl rfl) ho (fun b hb hne => hw b hb (hne e0 hk))
    (fun b' hb' => ⟨Nat.lt_of_lt_of_le (I.new k e0 b' hk hb').2 ho.2.2.2, .inr ⟨e0, hk, hb'⟩⟩) (fun v hv => I.inn k v hv) (by rw [upd_self]; exact he)
  rw [upd_self] at h
  exact h
/-- The rest of a row of ours. -/
theorem ok_sliceo (I : Iv Γ σ ρ a w) {o : Oper} {x lo : Operand} {t k n T e : Nat} {kk : IntKind} {p : Int} {l : List SV} (ho : o.op = .slice t x (some lo) none none) (he : elOf Γ.P t = some (e, n))
    (hx : σ.ev x = .own k) (hk : σ.h.lookup k = some (.row n T l)) (hl : 0 < l.length) (hlo : σ.ev lo = .sv (.raw (.int kk p))) (h0 : 0 ≤ p) (h1 : p ≤ l.length) :
    ∃ v, LRep w (Own Γ σ.h ρ) ρ (.osub k n p.toNat) v ∧ ∀ w', (execOp a.eval o).run Γ.P w' = .ok (.value v) w' := by
  obtain ⟨hu, hs⟩ := elOf_spec he
  have hX : a.eval x = ρ k := by have := I.ev x; rw [hx] at this; exact this
  obtain ⟨hz, xs, vals, hown, hrep⟩ := I.ent k _ hk
  rcases hown.2 with ⟨_, h⟩ | ⟨g, cap, cur, hv, _, hg, hcap, _⟩
  · omega
  · have hadd : ∀ m, (⟨g, 0, none⟩ : Addr).add m = ⟨g, m, none⟩ := fun m => by rw [addr_add, Nat.zero_add]
    refine ⟨.slice (if cap = p.toNat then some ⟨g, 0, none⟩ else some ⟨g, p.toNat * n, none⟩) (l.length - p.toNat) (cap - p.toNat), ⟨g, l.length, cap, hv, rfl⟩, fun w' => ?_⟩
    have hb := bounds_run (b := true) (n := l.length) (cap := cap) (lo := some lo) (hi := none) (l := p) (h := l.length) I (.inr ⟨lo, kk, rfl, hlo⟩) (.inl ⟨rfl, rfl⟩) h0 h1 (Int.le_refl _) hcap w'
    simp only [Option.map_some, Option.map_none, Int.toNat_natCast] at hb
    simp [execOp, ho, hX, hv, Instr.sliceAt, Instr.slice, run_underlying hu, hb, run_sizeOf hs, hadd]
/-- A list, behind a copy of its elements from j on to the places from i on. -/
def cpy {α : Type} (l : List α) (i j : Nat) : List α := l.take i ++ (l.drop j).take (l.length - i) ++ l.drop (i + ((l.drop j).take (l.length - i)).length)
theorem cpy_len {α : Type} (l : List α) (i j : Nat) (hi : i ≤ l.length) : (cpy l i j).length = l.length := by
  unfold cpy; simp only [List.length_append, List.length_take, List.length_drop]; omega
theorem cpy_get {α : Type} (l : List α) (i j : Nat) (hi : i ≤ l.length) (t : Nat) : (cpy l i j)[t]? = if i ≤ t ∧ t < i + ((l.drop j).take (l.length - i)).length then l[j + (t - i)]? else l[t]? := by
  unfold cpy
  generalize hm : ((l.drop j).take (l.length - i)).length = m
  have hm' : m = min (l.length - i) (l.length - j) := by rw [← hm, List.length_take, List.length_drop]
  have hl1 : (l.take i).length = i := by rw [List.length_take]; omega
  have hl2 : (l.take i ++ (l.drop j).take (l.length - i)).length = i + m := by rw [List.length_append, hl1, hm]
  by_cases h1 : t < i
  · rw [if_neg (by omega), List.append_assoc, List.getElem?_append_left (by omega), List.getElem?_take, if_pos h1]
  · by_cases h2 : t < i + m
    · rw [if_pos ⟨by omega, h2⟩, List.getElem?_append_left (by omega), List.getElem?_append_right (by omega), List.getElem?_take, hl1, if_pos (by omega), List.getElem?_drop]
    · rw [if_neg (by omega), List.getElem?_append_right (by omega), List.getElem?_drop, hl2]
      congr 1
      omega
theorem cpy_map {α β : Type} (f : α → β) (l : List α) (i j : Nat) : (cpy l i j).map f = cpy (l.map f) i j := by
  unfold cpy; simp only [List.map_append, List.map_take, List.map_drop, List.length_map, List.length_take, List.length_drop]
/-- A copy within a row of ours; elements of one cell. -/
theorem ok_copyo (I : Iv Γ σ ρ a w) {o : Oper} {x y : Operand} {t t' k T e i j : Nat} {l : List SV} {K : St → Prop} (ho : o.op = .call { callee := .builtin .copy, args := #[x, y], argTypes := #[t, t'] }) (hdn : dstOk Γ o = true) (he : elOf Γ.P t = some (e, 1))
    (hx : σ.ev x = .osub k 1 i) (hy : σ.ev y = .osub k 1 j) (hk : σ.h.lookup k = some (.row 1 T l)) (hi : i ≤ l.length) (hj : j ≤ l.length) (h1 : ∀ s ∈ l, s.one = true)
    (hK : K ((⟨σ.t, ins k (.row 1 T (cpy l i j)) σ.h⟩ : St).put o.dst .dead)) : XOk Γ a w o False K := by
  obtain ⟨hu, hs⟩ := elOf_spec he
  have hX := I.ev x
  have hY := I.ev y
  rw [hx] at hX
  rw [hy] at hY
  obtain ⟨g, m, c, hr, hxv⟩ := hX
  obtain ⟨g', m', c', hr', hyv⟩ := hY
  rw [hr] at hr'
  simp only [Value.slice.injEq, Option.some.injEq, Addr.mk.injEq, and_true] at hr'
  obtain ⟨rfl, rfl, rfl⟩ := hr'
  obtain ⟨hz, xs, vals, hown, hrep⟩ := I.ent k _ hk
  have hown' := hown
  rw [hr] at hown'
  rcases hown'.2 with ⟨h, _⟩ | ⟨g2, c2, cur, hv, _, hg, hcap, hmax, hcs, htk⟩
  · cases h
  · simp only [Value.slice.injEq, Option.some.injEq, Addr.mk.injEq, and_true] at hv
    obtain ⟨rfl, rfl, rfl⟩ := hv
    simp only [Nat.mul_one] at hcs htk hxv hyv
    have hxl : xs.length = l.length := by simpa using hown.1
    -- the elements are their cells
    have hval : ∀ q s, l[q]? = some s → Rep w (Own Γ σ.h ρ) s (vals q) ∧ (vals q).oneCell' = true ∧ xs[q]? = some (vals q) := by
      intro q s hq
      obtain ⟨r1, r2, r3⟩ := hrep q s hq
      have ho1 := r1.oneCell (h1 s (List.mem_of_getElem? hq))
      refine ⟨r1, ho1, ?_⟩
      have := r3 0 (vals q) (by rw [oneCell_cells ho1]; rfl)
      simpa using this
    have hxo : ∀ v ∈ xs, v.oneCell' = true := by
      intro v hv
      obtain ⟨q, hq⟩ := List.getElem?_of_mem hv
      obtain ⟨s, hs'⟩ : ∃ s, l[q]? = some s := ⟨_, List.getElem?_eq_getElem (by rw [← hxl]; exact (List.getElem?_eq_some_iff.1 hq).1)⟩
      obtain ⟨_, r2, r3⟩ := hval q s hs'
      rw [hq] at r3; cases r3; exact r2
    have hcur : ∀ q, q < l.length → cur[q]? = xs[q]? := by
      intro q hq
      rw [← htk, List.getElem?_take, if_pos hq, Array.getElem?_toList]
    have hcurL : ∀ q, q < l.length → cur.toList[q]? = xs[q]? := by
      intro q hq
      rw [Array.getElem?_toList]; exact hcur q hq
    generalize hcs' : (xs.drop j).take (l.length - i) = cs
    have hcl : cs.length = Nat.min (l.length - j) (l.length - i) := by rw [← hcs', List.length_take, List.length_drop, hxl]; exact Nat.min_comm _ _
    have hcl1 : cs.length ≤ l.length - j := by rw [hcl]; exact Nat.min_le_left _ _
    have hcl2 : cs.length ≤ l.length - i := by rw [hcl]; exact Nat.min_le_right _ _
    -- the run, whatever the addresses of nothing
    have hrun : ∃ p, (c ≠ i → p = i) ∧ p ≤ i ∧ a.eval x = .slice (some ⟨g, p, none⟩) (l.length - i) (c - i) := by
      by_cases hc : c = i
      · exact ⟨0, fun h => (h hc).elim, Nat.zero_le _, by rw [hxv, if_pos hc]⟩
      · exact ⟨i, fun _ => rfl, Nat.le_refl _, by rw [hxv, if_neg hc]⟩
    have hrun2 : ∃ q, (c ≠ j → q = j) ∧ a.eval y = .slice (some ⟨g, q, none⟩) (l.length - j) (c - j) := by
      by_cases hc : c = j
      · exact ⟨0, fun h => (h hc).elim, by rw [hyv, if_pos hc]⟩
      · exact ⟨j, fun _ => rfl, by rw [hyv, if_neg hc]⟩
    obtain ⟨p, hp1, hp2, hpx⟩ := hrun
    obtain ⟨q, hq1, hqy⟩ := hrun2
    have hsrc : ∀ r v, cs[r]? = some v → w.cell? ((⟨g, q, none⟩ : Addr).add r) = some v := by
      intro r v hv
      have hlt := (List.getElem?_eq_some_iff.1 hv).1
      have hqj : q = j := hq1 (by omega)
      rw [addr_add, hqj]
      rw [← hcs', List.getElem?_take, if_pos (by omega), List.getElem?_drop] at hv
      rw [← hcur (j + r) (by omega)] at hv
      simp [World.cell?, hg, hv]
    have hrun3 := run_copy_row (P := Γ.P) w t t' o.type e g p (l.length - i) (c - i) ⟨g, q, none⟩ (l.length - j) (c - j) cur T cs hu hs hg hcl hsrc (by omega) (fun v hv => hxo v (by rw [← hcs'] at hv; exact List.mem_of_mem_drop (List.mem_of_mem_take hv)))
    have run : (execOp a.eval o).run Γ.P w = .ok (.value (goInt cs.length)) (w.setRow g (cur.toList.take p ++ (cs ++ cur.toList.drop (p + cs.length))).toArray) := by
      simp [execOp, ho, resolve, invoke, builtin, hpx, hqy, hrun3]
    unfold XOk oN
    rw [run]
    have hbk : blk (ρ k) = some g := by rw [hr]; rfl
    have hsz : ∀ cs', (w.setRow g cs').heap.size = w.heap.size := fun cs' => by simp [World.setRow]
    refine ⟨_, hK, ⟨ρ, ?_⟩, fun h => h.elim⟩
    refine (I.turn (w' := w.setRow g (cur.toList.take p ++ (cs ++ cur.toList.drop (p + cs.length))).toArray) (e := .row 1 T (cpy l i j)) hk ⟨rfl, rfl, rfl, by rw [hsz]; exact Nat.le_refl _⟩ (fun b hb hne => setRow_other w g b _ (fun h => hne (by rw [hbk, h]))) ?_).put (dstOk_spec hdn) trivial
    have hnl : (cur.toList.take p ++ (cs ++ cur.toList.drop (p + cs.length))).length = cur.size := by simp; omega
    have hxc : cpy xs i j = (cur.toList.take p ++ (cs ++ cur.toList.drop (p + cs.length))).take l.length := by
      apply List.ext_getElem?
      intro r
      rw [cpy_get xs i j (by omega), hxl, hcs']
      by_cases hrl : r < l.length
      · rw [List.getElem?_take, if_pos hrl]
        by_cases hc : c = i
        · have hc0 : cs = [] := List.eq_nil_of_length_eq_zero (by omega)
          rw [if_neg (by intro h; have := h.2; rw [hc0, List.length_nil] at this; omega), hc0]
          simp only [List.length_nil, Nat.add_zero, List.nil_append, List.take_append_drop]
          exact (hcurL r hrl).symm
        · have hpi := hp1 hc
          subst hpi
          by_cases h2 : p ≤ r ∧ r < p + cs.length
          · rw [if_pos h2, List.getElem?_append_right (by simp; omega), List.getElem?_append_left (by simp; omega), ← hcs', List.getElem?_take, if_pos (by simp; omega), List.getElem?_drop]
            congr 1; simp; omega
          · rw [if_neg h2]
            by_cases h3 : r < p
            · rw [List.getElem?_append_left (by simp; omega), List.getElem?_take, if_pos h3]; exact (hcurL r hrl).symm
            · rw [List.getElem?_append_right (by simp; omega), List.getElem?_append_right (by simp; omega), List.getElem?_drop, ← hcurL r hrl]
              congr 1; simp; omega
      · rw [List.getElem?_take, if_neg hrl, if_neg (by omega), List.getElem?_eq_none (by omega)]
    refine ⟨hz, cpy xs i j, fun r => if i ≤ r ∧ r < i + cs.length then vals (j + (r - i)) else vals r, ?_, fun r s hr' => ?_⟩
    · rw [hr, cpy_len _ _ _ hi]
      refine ⟨by rw [cpy_len _ _ _ (by omega), Nat.mul_one, hxl], .inr ⟨g, c, _, rfl, Nat.zero_le _, setRow_heap w g cur _ T _ hg, hcap, hmax, by simpa [hcs] using hnl, ?_⟩⟩
      rw [Nat.mul_one, hxc]
    · have hkp : Kp w (Own Γ σ.h ρ) (w.setRow g (cur.toList.take p ++ (cs ++ cur.toList.drop (p + cs.length))).toArray) (Own Γ (ins k (.row 1 T (cpy l i j)) σ.h) ρ) := by
        intro b hb hno
        refine ⟨setRow_other w g b _ (fun h => hno (.inr ⟨k, _, hk, by rw [hbk, h]⟩)), ?_⟩
        rintro (hO | ⟨k1, e1, hk1, hb1⟩)
        · exact hno (.inl hO)
        · rw [lookup_ins] at hk1
          by_cases hkk : k1 = k
          · subst hkk; exact hno (.inr ⟨k1, _, hk, hb1⟩)
          · rw [if_neg hkk] at hk1; exact hno (.inr ⟨k1, e1, hk1, hb1⟩)
      have hcl3 : ((l.drop j).take (l.length - i)).length = cs.length := by rw [List.length_take, List.length_drop, hcl]; exact Nat.min_comm _ _
      rw [cpy_get l i j hi, hcl3] at hr'
      have hxg := cpy_get xs i j (by omega : i ≤ xs.length) r
      rw [hxl, hcs'] at hxg
      by_cases h2 : i ≤ r ∧ r < i + cs.length
      · simp only [if_pos h2] at hr' hxg ⊢
        obtain ⟨r1, r2, r3⟩ := hval _ _ hr'
        refine ⟨r1.kp hkp, by rw [oneCell_cells r2]; rfl, fun j' u hu' => ?_⟩
        rw [oneCell_cells r2] at hu'
        have hj0 : j' = 0 := by have := (Array.getElem?_eq_some_iff.1 hu').1; simpa using this
        subst hj0
        simp at hu'; subst hu'
        rw [Nat.mul_one, Nat.add_zero, hxg]; exact r3
      · simp only [if_neg h2] at hr' hxg ⊢
        obtain ⟨r1, r2, r3⟩ := hval _ _ hr'
        refine ⟨r1.kp hkp, by rw [oneCell_cells r2]; rfl, fun j' u hu' => ?_⟩
        rw [oneCell_cells r2] at hu'
        have hj0 : j' = 0 := by have := (Array.getElem?_eq_some_iff.1 hu').1; simpa using this
        subst hj0
        simp at hu'; subst hu'
        rw [Nat.mul_one, Nat.add_zero, hxg]; exact r3
end
section
variable {Γ : Ctx} {ops : Array Oper} {l : List (Oper × Nat)} {t : List (Nat × LV)} {h : List (Nat × Ent)} {K : St → Prop} {c d ty : Nat} {ps : String} {af : Array Edge} {x y : Operand}
theorem q_callo {f : Nat} {args : Array Operand} {ts : Array Nat} {sa : List SV} {n T : Nat} {r : List SV} (hc : PFnO Γ.P f sa n T r) (hcl : Calb Γ.P f)
    (ha : args.toList.map (St.ev ⟨t, h⟩) = sa.map LV.sv) (hf : St.free ⟨t, h⟩ d = true) (hi : Γ.inn d = none) (hk : RunL Γ ops l ⟨(d, .own d) :: t, ins d (.row n T r) h⟩ K) :
    RunL Γ ops ((⟨some d, .call { callee := .value (.func f), args := args, argTypes := ts }, ty, ps, af, none⟩, c + 2) :: l) ⟨t, h⟩ K :=
  let ⟨_, hf', hname, hb⟩ := hcl
  run_x (ext := True) rfl (by omega) (fun _ => trivial) fun _ _ _ I hd => ok_callo I rfl rfl (by simpa [dstOk] using hd) hf' hname hb ha hf hi hc hk
/-- The rest of a row of ours, from p on. -/
theorem q_slo {S k n T e : Nat} {kk : IntKind} {p : Int} {lo : Operand} {r : List SV} (he : elOf Γ.P S = some (e, n)) (hx : St.ev ⟨t, h⟩ x = .own k) (hh : h.lookup k = some (.row n T r)) (hr : 0 < r.length) (hlo : St.ev ⟨t, h⟩ lo = .sv (.raw (.int kk p))) (h0 : 0 ≤ p) (h1 : p ≤ r.length)
    (hk : RunL Γ ops l ⟨(d, .osub k n p.toNat) :: t, h⟩ K) : RunL Γ ops ((⟨some d, .slice S x (some lo) none none, ty, ps, af, none⟩, c) :: l) ⟨t, h⟩ K := by
  intro hd a w ⟨ρ, I⟩
  simp only [List.all_cons, Bool.and_eq_true] at hd
  obtain ⟨v, hv, hrun⟩ := ok_sliceo (o := ⟨some d, .slice S x (some lo) none none, ty, ps, af, none⟩) I rfl he hx hh hr hlo h0 h1
  have I' : Inv Γ ⟨(d, .osub k n p.toNat) :: t, h⟩ (a.put (some d) v) w := ⟨ρ, I.put (d := some d) (dstOk_spec hd.1) hv⟩
  unfold wpP
  split
  · exact ⟨v, .inl ⟨wanted_none rfl _, fun w' _ => hrun w'⟩, hk hd.2 _ _ I'⟩
  · rw [if_pos (wanted_none rfl _)]
    unfold oN
    rw [hrun w]
    exact ⟨fun _ => Ext.refl w, hk hd.2 _ _ I'⟩
theorem q_copyo {S S' k T e i j : Nat} {r : List SV} (he : elOf Γ.P S = some (e, 1)) (hx : St.ev ⟨t, h⟩ x = .osub k 1 i) (hy : St.ev ⟨t, h⟩ y = .osub k 1 j) (hh : h.lookup k = some (.row 1 T r)) (hi : i ≤ r.length) (hj : j ≤ r.length) (h1 : ∀ s ∈ r, s.one = true)
    (hk : RunL Γ ops l ⟨(d, .dead) :: t, ins k (.row 1 T (cpy r i j)) h⟩ K) :
    RunL Γ ops ((⟨some d, .call { callee := .builtin .copy, args := #[x, y], argTypes := #[S, S'] }, ty, ps, af, none⟩, 2) :: l) ⟨t, h⟩ K :=
  run_x (ext := False) rfl (by omega) (fun h => (h rfl).elim) fun _ _ _ I hd => ok_copyo I rfl hd he hx hy hh hi hj h1 hk
end
end Go.Abs
