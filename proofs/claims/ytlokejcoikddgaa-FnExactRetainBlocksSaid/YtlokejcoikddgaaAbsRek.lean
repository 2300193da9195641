/- A row or a map of ours that got a new name in a round of a loop: the old name again. No condition. -/
import Derived.Test.YtlokejcoikddgaaAbsRes
namespace Go.Abs
open Go Go.RowKit Go.Eager
set_option linter.unusedVariables false
def unr (d K0 : Nat) : LV → LV
  | .own j => if j = K0 then .own d else .own j
  | lv => lv
def unrT (d K0 : Nat) : List (Nat × LV) → List (Nat × LV)
  | [] => []
  | (t, lv) :: l => (t, unr d K0 lv) :: unrT d K0 l
def unrH (d K0 : Nat) : List (Nat × Ent) → List (Nat × Ent)
  | [] => []
  | (k, e) :: l => (if k = K0 then d else k, e) :: unrH d K0 l
theorem unrT_lookup {d K0 : Nat} : ∀ {l : List (Nat × LV)} {t : Nat} {lv : LV}, l.lookup t = some lv → (unrT d K0 l).lookup t = some (unr d K0 lv)
  | [], _, _, h => by simp at h
  | (t', lv') :: l, t, lv, h => by
    rw [List.lookup_cons] at h
    rw [unrT, List.lookup_cons]
    by_cases ht : t = t'
    · subst ht; simp at h ⊢; rw [h]
    · have : (t == t') = false := by simpa using ht
      simp only [this] at h ⊢
      exact unrT_lookup h
theorem le_rek {Γ : Ctx} (K0 d : Nat) {e : Ent} {t' t : List (Nat × LV)} {h' h : List (Nat × Ent)} (ht : leT (unrT d K0 t') t) (hh : leH (unrH d K0 h') h) (hf : St.free ⟨unrT d K0 t', unrH d K0 h'⟩ K0 = true)
    (hk : (unrH d K0 h').lookup d = some e) (hi : Γ.inn K0 = none) (hd : (t'.all fun p => match p.2 with | .eptr _ _ _ _ => false | .osub _ _ _ => false | _ => true) = true) (hk' : leH h' (ins K0 e (dropH d (unrH d K0 h')))) : Le Γ ⟨t', h'⟩ ⟨t, h⟩ := by
  rintro a w ⟨ρ, I⟩
  have I1 : Iv Γ ⟨unrT d K0 t', unrH d K0 h'⟩ ρ a w := I.sub (leT_spec ht) (leH_spec hh)
  have I2 := I1.rekey (k := d) (d := K0) hf hk hi
  obtain ⟨f1, f2, f3⟩ := free_spec hf
  -- the names of the slots
  have I3 : Iv Γ ⟨t', ins K0 e (dropH d (unrH d K0 h'))⟩ (upd ρ K0 (ρ d)) a w := by
    refine ⟨I2.dfr, I2.size, I2.frm, fun s lv hs => ?_, I2.ent, I2.new, I2.sep, I2.out, I2.inn⟩
    have h1 := unrT_lookup (d := d) (K0 := K0) hs
    have h2 := I2.tmp s _ h1
    have h3 := I2.tmp s _ h1
    cases lv with
    | own j =>
      by_cases hj : j = K0
      · subst hj
        have h4 := I1.tmp s _ h1
        simp only [unr, if_true] at h4
        show a.tmps.getD s undef = upd ρ j (ρ d) j
        rw [upd_at]; exact h4
      · simp only [unr, if_neg hj] at h2; exact h2
    | _ => exact h2
  exact ⟨_, I3.sub (fun _ _ h => h) (leH_spec hk')⟩
section
variable {Γ : Ctx} {ops : Array Oper} {l : List (Oper × Nat)} {t : List (Nat × LV)} {h : List (Nat × Ent)} {K : St → Prop} {c d ty : Nat} {ps : String} {af : Array Edge} {x : Operand}
/-- A nil slice that is to grow: a row of ours, of nothing yet. -/
theorem q_an {n : Nat} (T : Nat) (hn : 0 < n) (hx : St.ev ⟨t, h⟩ x = .sv (.raw (.slice none 0 0))) (hf : St.free ⟨t, h⟩ d = true) (hi : Γ.inn d = none) (hk : RunL Γ ops l ⟨(d, .own d) :: t, ins d (.row n T []) h⟩ K) :
    RunL Γ ops ((⟨some d, .assign x, ty, ps, af, none⟩, c + 2) :: l) ⟨t, h⟩ K := by
  refine run_x (ext := True) rfl (by omega) (fun _ => trivial) fun a w ρ I hd => ?_
  have run : (execOp a.eval ⟨some d, .assign x, ty, ps, af, none⟩).run Γ.P w = .ok (.value (.slice none 0 0)) w := by
    simp [execOp, ev_raw I hx]
  unfold XOk oN
  rw [run]
  have I' := I.begin (T := T) hn hf hi
  refine ⟨_, hk, ⟨upd ρ d (.slice none 0 0), ?_⟩, fun _ => Ext.refl w⟩
  exact I'.put (d := some d) (lv := .own d) (v := .slice none 0 0) (by simpa [dstOk] using hd) (upd_at _ _ _).symm
end
end Go.Abs
