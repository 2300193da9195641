/- A load, a store, a new box, a new row: what they do to plain values. No condition. -/
import Derived.Test.YtlokejcoikddgaaAbsMem
import Derived.Laws.MakeOwn
namespace Go.Abs
open Go Go.RowKit Go.Eager

def LV.one : LV → Bool
  | .sv s => s.one
  | .dead => false
  | _ => true
def svs : List LV → Option (List SV)
  | [] => some []
  | .sv s :: l => (svs l).map (s :: ·)
  | _ :: _ => none

theorem svs_spec : ∀ {c : List LV} {l : List SV}, svs c = some l → c = l.map LV.sv
  | [], l, h => by simp [svs] at h; subst h; rfl
  | lv :: c, l, h => by
    cases lv <;> simp [svs] at h
    obtain ⟨l', h1, rfl⟩ := h
    rw [svs_spec h1]; rfl

def stepR (P : Program) (σ : St) (op : Op) (K : LV → Prop) : Prop :=
  match op with
  | .load t x =>
    match σ.ev x with
    | .sv (.ptr p) => ∃ g, aggOf P t = some g ∧ (g = false → p.one = true ∧ K (.sv p)) ∧ (g = true → ∃ l, p = .agg l ∧ szOf P t = some l.length ∧ K (.sv p))
    | .ptr k j => ∃ cells, σ.h.lookup k = some (.box cells) ∧ ∃ g, aggOf P t = some g ∧ (g = false → ∃ lv, cells[j]? = some lv ∧ K lv) ∧
        (g = true → ∃ n, szOf P t = some n ∧ ∃ l, svs ((cells.drop j).take n) = some l ∧ l.length = n ∧ K (.sv (.agg l)))
    | .eptr k sz i j => ∃ T l s, σ.h.lookup k = some (.row sz T l) ∧ l[i]? = some s ∧ ∃ g, aggOf P t = some g ∧
        (g = false → (j = 0 ∧ s.one = true ∧ K (.sv s)) ∨ ∃ c p, s = .agg c ∧ c[j]? = some p ∧ K (.sv p)) ∧ (g = true → j = 0 ∧ ∃ c, s = .agg c ∧ szOf P t = some c.length ∧ K (.sv s))
    | _ => False
  | _ => False

def ReadOk (Γ : Ctx) (σ : St) (ρ : Nat → Value) (a : Act) (w : World) (o : Oper) (K : LV → Prop) : Prop :=
  ∃ lv v, K lv ∧ LRep w (Own Γ σ.h ρ) ρ lv v ∧ ∀ w', Ext w w' → (execOp a.eval o).run Γ.P w' = .ok (.value v) w'

theorem addr_add (b o n : Nat) : (⟨b, o, none⟩ : Addr).add n = ⟨b, o + n, none⟩ := by unfold Addr.add; split <;> simp_all

theorem run_loadAt_one {P : Program} {t : TypeId} {w : World} {b o : Nat} {u : Value} (h : aggOf P t = some false) (hc : w.cell? ⟨b, o, none⟩ = some u) : (Instr.loadAt t (.pointer (some ⟨b, o, none⟩))).run P w = .ok u w := by
  simp [Instr.loadAt, Instr.sureAddr, loadVar, run_isAgg h, hc]
theorem run_loadAt_agg {P : Program} {t : TypeId} {w : World} {b o : Nat} {vs : Array Value} (h : aggOf P t = some true) (hs : szOf P t = some vs.size) (hc : ∀ j u, vs[j]? = some u → w.cell? ⟨b, o + j, none⟩ = some u) :
    (Instr.loadAt t (.pointer (some ⟨b, o, none⟩))).run P w = .ok (.agg vs) w := by
  have hl := run_loadCells_list (P := P) w ⟨b, o, none⟩ vs.toList (fun j v hv => by rw [addr_add]; exact hc j v (by simpa using hv))
  simp only [Array.length_toList, Array.toArray_toList] at hl
  simp [Instr.loadAt, Instr.sureAddr, loadVar, run_isAgg h, run_sizeOf hs, hl]

theorem Ext.cell {w w' : World} (h : Ext w w') {b o : Nat} {u : Value} (hc : w.cell? ⟨b, o, none⟩ = some u) : w'.cell? ⟨b, o, none⟩ = some u :=
  (Below.cell h (World.block_lt_of_cell? w _ hc)).trans hc

section
variable {Γ : Ctx} {σ : St} {ρ : Nat → Value} {a : Act} {w : World} {K : LV → Prop}

/-- The cells of one of our rows' elements. -/
theorem row_cell {O : Nat → Prop} {k sz T : Nat} {l : List SV} (hE : ERep w O ρ k (.row sz T l)) {b n c : Nat} (hr : ρ k = .slice (some ⟨b, 0, none⟩) n c) {i : Nat} {s : SV} (hi : l[i]? = some s) :
    ∃ v, Rep w O s v ∧ v.cells.size = sz ∧ ∀ (j : Nat) (u : Value), v.cells[j]? = some u → w.cell? ⟨b, i * sz + j, none⟩ = some u := by
  obtain ⟨hz, xs, vals, hown, hrep⟩ := hE
  obtain ⟨h1, h2, h3⟩ := hrep i s hi
  refine ⟨vals i, h1, h2, fun j u hu => ?_⟩
  rw [hr] at hown
  have h4 := hown.cells (g := b) rfl (i * sz + j) u (h3 j u hu)
  rwa [addr_add, Nat.zero_add] at h4

theorem stepR_sound (I : Iv Γ σ ρ a w) {o : Oper} (h : stepR Γ.P σ o.op K) : ReadOk Γ σ ρ a w o K := by
  cases ho : o.op with
  | load t x =>
    rw [ho] at h
    simp only [stepR] at h
    have hx := I.ev x
    split at h
    · rename_i p hp
      rw [hp] at hx
      obtain ⟨g, hg, h0, h1⟩ := h
      generalize hv : a.eval x = v at hx
      cases hx with
      | ptr _ b off u hb hr hz h3 =>
        cases g with
        | false =>
          obtain ⟨hone, hk⟩ := h0 rfl
          refine ⟨_, u, hk, hr, fun w' hx => ?_⟩
          have hc : w.cell? ⟨b, off, none⟩ = some u := by
            have := h3 0 u (by rw [oneCell_cells (hr.oneCell hone)]; rfl)
            simpa using this
          simp [execOp, ho, hv, run_loadAt_one hg (Ext.cell hx hc)]
        | true =>
          obtain ⟨l, rfl, hs, hk⟩ := h1 rfl
          obtain ⟨vs, rfl, hsz⟩ := agg_inv hr
          refine ⟨_, _, hk, hr, fun w' hx => ?_⟩
          simp [execOp, ho, hv, run_loadAt_agg (vs := vs) hg (by rw [hs, hsz]) (fun j u hu => Ext.cell hx (h3 j u hu))]
    · rename_i k j hp
      rw [hp] at hx
      obtain ⟨cells, hlk, g, hg, h0, h1⟩ := h
      obtain ⟨b, hr, hv⟩ := hx
      obtain ⟨b', T, cur, hr', hcur, hsz, hcells⟩ := I.ent _ _ hlk
      rw [hr] at hr'
      simp only [Value.pointer.injEq, Option.some.injEq, Addr.mk.injEq, and_true] at hr'
      subst hr'
      cases g with
      | false =>
        obtain ⟨lv, hlv, hk⟩ := h0 rfl
        have hlt : j < cur.size := by rw [hsz]; exact (List.getElem?_eq_some_iff.1 hlv).1
        have hu : cur[j]? = some cur[j] := Array.getElem?_eq_getElem hlt
        refine ⟨lv, _, hk, (hcells j lv _ hlv hu).1, fun w' hx => ?_⟩
        have hc : w.cell? ⟨b, j, none⟩ = some cur[j] := by rw [cell_of_row w b j cur T (0, 0) hcur]; exact hu
        simp [execOp, ho, hv, run_loadAt_one hg (Ext.cell hx hc)]
      | true =>
        obtain ⟨n, hs, l, hl, hn, hk⟩ := h1 rfl
        have hl' := svs_spec hl
        have hlen : ((cells.drop j).take n).length = n := by rw [hl']; simpa using hn
        simp only [List.length_take, List.length_drop] at hlen
        have key : ∀ i s, l[i]? = some s → i < n ∧ cells[j + i]? = some (.sv s) := by
          intro i s hi
          have hin : i < n := by rw [← hn]; exact (List.getElem?_eq_some_iff.1 hi).1
          refine ⟨hin, ?_⟩
          have : ((cells.drop j).take n)[i]? = some (LV.sv s) := by rw [hl', List.getElem?_map, hi]; rfl
          rwa [List.getElem?_take, if_pos hin, List.getElem?_drop] at this
        refine ⟨_, .agg (cur.extract j (j + n)), hk, Rep.agg _ _ (by simp; omega) (fun i u hu => ?_) (fun i s u hi hu => ?_), fun w' hx => ?_⟩
        · rw [Array.getElem?_extract] at hu
          split at hu
          · rename_i hh
            have hlt : j + i < cells.length := by omega
            exact (hcells (j + i) _ u (List.getElem?_eq_getElem hlt) hu).2
          · cases hu
        · obtain ⟨hin, hc⟩ := key i s hi
          rw [Array.getElem?_extract] at hu
          split at hu
          · exact (hcells (j + i) _ u hc hu).1
          · cases hu
        · have hsz' : szOf Γ.P t = some (cur.extract j (j + n)).size := by rw [hs]; simp; omega
          simp [execOp, ho, hv, run_loadAt_agg hg hsz' (fun i u hu => Ext.cell hx (by
            rw [Array.getElem?_extract] at hu
            split at hu
            · rw [cell_of_row w b (j + i) cur T (0, 0) hcur]; exact hu
            · cases hu))]
    · rename_i k sz i j hp
      rw [hp] at hx
      obtain ⟨T, l, s, hlk, hi, g, hg, h0, h1⟩ := h
      obtain ⟨b, n, c, hr, hv⟩ := hx
      obtain ⟨v, hrep, hvs, hcell⟩ := row_cell (I.ent _ _ hlk) hr hi
      cases g with
      | false =>
        rcases h0 rfl with ⟨rfl, hone, hk⟩ | ⟨cs, p, rfl, hp, hk⟩
        · refine ⟨_, v, hk, hrep, fun w' hx => ?_⟩
          have hc := hcell 0 v (by rw [oneCell_cells (hrep.oneCell hone)]; rfl)
          simp only [Nat.add_zero] at hc
          simp [execOp, ho, hv, run_loadAt_one hg (Ext.cell hx hc)]
        · obtain ⟨vs, rfl, hsz⟩ := agg_inv hrep
          obtain ⟨u, hu, hru, hone⟩ := agg_cell hrep hp
          exact ⟨_, u, hk, hru, fun w' hx => by simp [execOp, ho, hv, run_loadAt_one hg (Ext.cell hx (hcell j u hu))]⟩
      | true =>
        obtain ⟨rfl, cs, rfl, hs, hk⟩ := h1 rfl
        obtain ⟨vs, rfl, hsz⟩ := agg_inv hrep
        exact ⟨_, _, hk, hrep, fun w' hx => by simp [execOp, ho, hv, run_loadAt_agg (vs := vs) hg (by rw [hs, hsz]) (fun j u hu => Ext.cell hx (hcell j u hu))]⟩
    · exact h.elim
  | _ => rw [ho] at h; simp only [stepR] at h
end
end Go.Abs
