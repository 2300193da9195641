/- A row of pairs of whole numbers of ours, put in order by the library (slices.SortFunc). No condition. -/
import Derived.Test.YtlokejcoikddgaaAbsSort
import Derived.Shelf.SlSortCmp.WholeK
import Derived.Laws.Tables
namespace Go.Abs
open Go Go.RowKit Go.Eager Go.Sort Go.Proofs
set_option linter.unusedVariables false
def encP (x : Int × Int) : List Value := [.int .i64 x.1, .int .i64 x.2]
@[reducible] def pairSV (x : Int × Int) : SV := .agg [.raw (.int .i64 x.1), .raw (.int .i64 x.2)]
/-- What slices.SortFunc says at pairs, under a comparison g of their first numbers. -/
def SortsPairs (P : Program) (f g : FuncId) : Prop :=
  ∀ (blk off cap : Nat) (d : List (Int × Int)) (w : World), HoldsK encP 2 w blk off d.toArray → blk < w.heap.size → d.length < 4611686018427387904 →
    Calls P f #[.slice (some ⟨blk, off, none⟩) d.length cap, .func (.func g) #[] #[]] w fun e w' =>
      e = .returned (.tuple #[]) ∧ ∃ (d' : List (Int × Int)) (n : Nat) (os : Array Obj), d'.Perm d ∧ (d'.Pairwise fun a b => a.1 ≤ b.1) ∧ w' = sortWorldK encP 2 w blk off n d'.toArray os
theorem flat_get (d : List (Int × Int)) (i : Nat) (x : Int × Int) (h : d[i]? = some x) : (flatK encP 2 d.toArray).toList[i * 2]? = some (.int .i64 x.1) ∧ (flatK encP 2 d.toArray).toList[i * 2 + 1]? = some (.int .i64 x.2) := by
  obtain ⟨hi, rfl⟩ := List.getElem?_eq_some_iff.1 h
  have e0 : (i * 2) / 2 = i := by omega
  have e1 : (i * 2 + 1) / 2 = i := by omega
  have m0 : (i * 2) % 2 = 0 := by omega
  have m1 : (i * 2 + 1) % 2 = 1 := by omega
  constructor
  · simp only [flatK, Array.toList_map, Array.toList_range, List.getElem?_map, List.size_toArray]
    rw [List.getElem?_range (by omega)]
    simp [e0, m0, encP, hi]
  · simp only [flatK, Array.toList_map, Array.toList_range, List.getElem?_map, List.size_toArray]
    rw [List.getElem?_range (by omega)]
    simp [e1, m1, encP, hi]
theorem flat_len (d : List (Int × Int)) : (flatK encP 2 d.toArray).toList.length = d.length * 2 := by simp
section
variable {Γ : Ctx} {σ : St} {ρ : Nat → Value} {a : Act} {w : World}
theorem ok_sortp (I : Iv Γ σ ρ a w) {o : Oper} {f g : FuncId} {fn : Func} {x : Operand} {ts : Array TypeId} {T k : Nat} {zs : List (Int × Int)} {K : St → Prop}
    (ho : o.op = .call { callee := .value (.func f), args := #[x, .func g], argTypes := ts }) (hdn : dstOk Γ o = true) (hf : Γ.P.funcs[f]? = some fn) (hname : (fn.name == "runtime.NumGoroutine") = false) (hb : fn.body.isNone = false)
    (hx : σ.ev x = .own k) (hk : σ.h.lookup k = some (.row 2 T (zs.map pairSV))) (h0 : 0 < zs.length) (h1 : zs.length < 4611686018427387904) (hc : SortsPairs Γ.P f g)
    (hK : ∀ ys : List (Int × Int), ys.Perm zs → (ys.Pairwise fun a b => a.1 ≤ b.1) → K ((⟨σ.t, ins k (.row 2 T (ys.map pairSV)) σ.h⟩ : St).put o.dst .dead)) : XOk Γ a w o False K := by
  have hX : a.eval x = ρ k := by have := I.ev x; rw [hx] at this; exact this
  have hrun : (execOp a.eval o).run Γ.P w = .ok (.enter f #[ρ k, .func (.func g) #[] #[]]) w := by
    have hY : a.eval (.func f) = .func (.func f) #[] #[] := rfl
    have hG : a.eval (.func g) = .func (.func g) #[] #[] := rfl
    simp [execOp, ho, resolve, hY, Deferred.ofValue, invoke, run_callFunc hf hname hb, hX, hG]
  obtain ⟨hz, xs, vals, hown, hrep⟩ := I.ent k _ hk
  rw [List.length_map] at hown
  have hxl : xs.length = zs.length * 2 := hown.1
  have hxs : xs = (flatK encP 2 zs.toArray).toList := by
    apply List.ext_getElem?
    intro q
    by_cases hq : q < zs.length * 2
    · obtain ⟨z, hz'⟩ : ∃ z, zs[q / 2]? = some z := ⟨_, List.getElem?_eq_getElem (by omega)⟩
      obtain ⟨r1, r2, r3⟩ := hrep (q / 2) (pairSV z) (by rw [List.getElem?_map, hz']; rfl)
      obtain ⟨f0, f1⟩ := flat_get zs (q / 2) z hz'
      generalize hv : vals (q / 2) = v at r1 r2 r3
      cases r1 with
      | agg l vs hn g1 g2 =>
        have c0 : ∃ u, vs[0]? = some u := ⟨_, Array.getElem?_eq_getElem (by rw [hn]; simp)⟩
        have c1 : ∃ u, vs[1]? = some u := ⟨_, Array.getElem?_eq_getElem (by rw [hn]; simp)⟩
        obtain ⟨u0, c0⟩ := c0
        obtain ⟨u1, c1⟩ := c1
        have d0 := rep_raw' (g2 0 _ u0 rfl c0)
        have d1 := rep_raw' (g2 1 _ u1 rfl c1)
        subst d0 d1
        have t0 := r3 0 _ c0
        have t1 := r3 1 _ c1
        rcases Nat.mod_two_eq_zero_or_one q with hm | hm
        · have e : q = q / 2 * 2 + 0 := by omega
          rw [e, t0]; exact f0.symm
        · have e : q = q / 2 * 2 + 1 := by omega
          rw [e, t1]; exact f1.symm
    · rw [List.getElem?_eq_none (by omega), List.getElem?_eq_none (by rw [flat_len]; omega)]
  rcases hown.2 with ⟨_, h2⟩ | ⟨b, cap, cur, hv, _, hg, hcap, hmax, hcs, htk⟩
  · omega
  · have hbk : blk (ρ k) = some b := by rw [hv]; rfl
    have hlt : b < w.heap.size := (Array.getElem?_eq_some_iff.1 hg).1
    have hH : HoldsK encP 2 w b 0 zs.toArray := by
      intro j hj
      rw [size_flatK, List.size_toArray] at hj
      have hjc : j < cur.size := by rw [hcs]; exact Nat.lt_of_lt_of_le hj (Nat.mul_le_mul_right 2 hcap)
      refine ⟨?_, by simp [World.frozen?, hg]⟩
      have e1 : (cur.toList.take (zs.length * 2))[j]? = (flatK encP 2 zs.toArray).toList[j]? := by rw [htk, hxs]
      rw [List.getElem?_take, if_pos hj, Array.getElem?_toList, Array.getElem?_toList] at e1
      simp only [World.cell?, hg, Nat.zero_add, Option.isSome_none, Bool.false_eq_true, if_false]
      rw [e1, Array.getElem?_eq_getElem (by simp; omega)]
      simp [getElem!_pos, hj]
    unfold XOk oN
    rw [hrun, hv]
    refine (hc b 0 cap zs w hH hlt h1).mono ?_
    rintro e w' ⟨he, ys, n, os, hp, hso, rfl⟩
    refine ⟨_, he, _, hK ys hp hso, ⟨ρ, ?_⟩, fun h => h.elim⟩
    have hyl : ys.length = zs.length := hp.length_eq
    have hgb : (putRowK encP 2 (Sort.ahead w n) b 0 ys.toArray).heap[b]? = some (.cells (putCells id 0 (flatK encP 2 ys.toArray) cur) T (0, 0)) := by
      simp [putRowK, putRow, mapBlock, Sort.ahead, Array.getElem?_modify, hg, onCells]
    have hsz : (putRowK encP 2 (Sort.ahead w n) b 0 ys.toArray).heap.size = w.heap.size := by simp [putRowK, putRow, mapBlock, Sort.ahead]
    have hgr : ∀ c, c < w.heap.size → (sortWorldK encP 2 w b 0 n ys.toArray os).heap[c]? = (putRowK encP 2 (Sort.ahead w n) b 0 ys.toArray).heap[c]? := by
      intro c hc'
      simp only [sortWorldK, grow]
      rw [Array.getElem?_append_left (by rw [hsz]; exact hc')]
    have hoth : ∀ c, c ≠ b → (putRowK encP 2 (Sort.ahead w n) b 0 ys.toArray).heap[c]? = w.heap[c]? := by
      intro c hc'
      simp [putRowK, putRow, mapBlock, Sort.ahead, Array.getElem?_modify, show b ≠ c from fun h => hc' h.symm]
    refine (I.turn (w' := sortWorldK encP 2 w b 0 n ys.toArray os) (e := .row 2 T (ys.map pairSV)) hk ⟨rfl, rfl, rfl, by simp only [sortWorldK]; rw [size_grow, hsz]; omega⟩ (fun c hc' hne => ?_) ?_).put (dstOk_spec hdn) trivial
    · rw [hgr c hc']; exact hoth c fun h => hne (by rw [hbk, h])
    · refine ⟨hz, (flatK encP 2 ys.toArray).toList, fun i => .agg #[.int .i64 (ys.getD i (0, 0)).1, .int .i64 (ys.getD i (0, 0)).2], ?_, fun i s hi => ?_⟩
      · rw [hv, List.length_map, hyl]
        refine ⟨by rw [flat_len, hyl], .inr ⟨b, cap, putCells id 0 (flatK encP 2 ys.toArray) cur, rfl, Nat.zero_le _, ?_, hcap, hmax, by simpa [putCells] using hcs, ?_⟩⟩
        · rw [hgr b hlt]; exact hgb
        · apply List.ext_getElem?
          intro j
          rw [List.getElem?_take, Array.getElem?_toList, Array.getElem?_toList]
          by_cases hj : j < zs.length * 2
          · have hjc : j < cur.size := by rw [hcs]; exact Nat.lt_of_lt_of_le hj (Nat.mul_le_mul_right 2 hcap)
            rw [if_pos hj]
            simp only [putCells, Array.getElem?_mapIdx, Array.getElem?_eq_getElem hjc, Option.map_some]
            rw [if_pos (by simp [hyl]; omega), Array.getElem?_eq_getElem (by simp [hyl]; omega)]
            simp [getElem!_pos, hyl, hj]
          · rw [if_neg hj, Array.getElem?_eq_none (by simp [hyl]; omega)]
      · rw [List.getElem?_map] at hi
        cases hq : ys[i]? with
        | none => simp [hq] at hi
        | some z =>
          simp only [hq, Option.map_some, Option.some.injEq] at hi
          subst hi
          obtain ⟨f0, f1⟩ := flat_get ys i z hq
          simp only [List.getD_eq_getElem?_getD, hq, Option.getD_some]
          refine ⟨Rep.agg _ _ rfl (fun j u hu => ?_) (fun j s u hs hu => ?_), rfl, fun j u hu => ?_⟩
          · match j, hu with
            | 0, hu => simp at hu; subst hu; rfl
            | 1, hu => simp at hu; subst hu; rfl
            | j + 2, hu => simp at hu
          · match j, hs, hu with
            | 0, hs, hu => simp at hs hu; subst hs hu; exact Rep.raw _
            | 1, hs, hu => simp at hs hu; subst hs hu; exact Rep.raw _
            | j + 2, hs, hu => simp at hu
          · match j, hu with
            | 0, hu => simp [Value.cells] at hu; subst hu; exact f0
            | 1, hu => simp [Value.cells] at hu; subst hu; exact f1
            | j + 2, hu => simp [Value.cells] at hu
end
section
variable {Γ : Ctx} {ops : Array Oper} {l : List (Oper × Nat)} {t : List (Nat × LV)} {h : List (Nat × Ent)} {K : St → Prop} {c d ty : Nat} {ps : String} {af : Array Edge} {x y : Operand}
theorem q_sortp {f g k T : Nat} {ts : Array Nat} {zs : List (Int × Int)} (hc : SortsPairs Γ.P f g) (hcl : Calb Γ.P f) (hx : St.ev ⟨t, h⟩ x = .own k) (hh : h.lookup k = some (.row 2 T (zs.map pairSV))) (h0 : 0 < zs.length) (h1 : zs.length < 4611686018427387904)
    (hk : ∀ ys : List (Int × Int), ys.Perm zs → (ys.Pairwise fun a b => a.1 ≤ b.1) → RunL Γ ops l ⟨(d, .dead) :: t, ins k (.row 2 T (ys.map pairSV)) h⟩ K) :
    RunL Γ ops ((⟨some d, .call { callee := .value (.func f), args := #[x, .func g], argTypes := ts }, ty, ps, af, none⟩, 2) :: l) ⟨t, h⟩ K :=
  let ⟨_, hf', hname, hb⟩ := hcl
  run_x (ext := False) rfl (by omega) (fun h => (h rfl).elim) fun a w ρ I hd => ok_sortp I rfl hd hf' hname hb hx hh h0 h1 hc hk
/-- A struct of two whole numbers, put together. -/
theorem q_bld2 {S : Nat} {p q : Int} (hb : Γ.P.built S [(0, .int .i64 p), (1, .int .i64 q)] = some #[.int .i64 p, .int .i64 q]) (hx : St.ev ⟨t, h⟩ x = .sv (.raw (.int .i64 p))) (hy : St.ev ⟨t, h⟩ y = .sv (.raw (.int .i64 q)))
    (hk : RunL Γ ops l ⟨(d, .sv (pairSV (p, q))) :: t, h⟩ K) : RunL Γ ops ((⟨some d, .build S #[(0, x), (1, y)], ty, ps, af, none⟩, c + 2) :: l) ⟨t, h⟩ K := by
  refine run_x (ext := True) rfl (by omega) (fun _ => trivial) fun a w ρ I hd => ?_
  have run : (execOp a.eval ⟨some d, .build S #[(0, x), (1, y)], ty, ps, af, none⟩).run Γ.P w = .ok (.value (.agg #[.int .i64 p, .int .i64 q])) w := by
    have := run_build (P := Γ.P) w S #[(0, .int .i64 p), (1, .int .i64 q)] _ hb
    simp [execOp, ev_raw I hx, ev_raw I hy, this]
  unfold XOk oN
  rw [run]
  refine ⟨_, hk, ⟨ρ, I.put (d := some d) (by simpa [dstOk] using hd) ?_⟩, fun _ => Ext.refl w⟩
  refine Rep.agg _ _ rfl (fun j u hu => ?_) (fun j s u hs hu => ?_)
  · match j, hu with
    | 0, hu => simp at hu; subst hu; rfl
    | 1, hu => simp at hu; subst hu; rfl
    | j + 2, hu => simp at hu
  · match j, hs, hu with
    | 0, hs, hu => simp at hs hu; subst hs hu; exact Rep.raw _
    | 1, hs, hu => simp at hs hu; subst hs hu; exact Rep.raw _
    | j + 2, hs, hu => simp at hu
end
end Go.Abs
