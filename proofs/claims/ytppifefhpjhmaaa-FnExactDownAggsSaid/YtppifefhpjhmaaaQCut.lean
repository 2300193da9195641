/- Lemmas: a region that only reads is walked piece by piece; what its own places hold between two pieces is forgotten. No condition. -/
import Derived.Deep.QuietTactic
import Derived.BigQuiet
namespace Go.Proofs.Ytppifefhpjhmaaa.QCut
/-- A frame's places from lo to hi turned into what J says, place d into x. -/
def jkL (lo hi d : Nat) (x : Value) (J : Nat → Value) : Nat → List Value → List Value
  | _, [] => []
  | i, v :: r => (if i = d then x else if lo ≤ i then if i < hi then J i else v else v) :: jkL lo hi d x J (i + 1) r
/-- .. wiped out. -/
def wipe (lo hi : Nat) : Nat → List Value → List Value
  | _, [] => []
  | i, v :: r => (bif Nat.ble lo i && Nat.ble (i + 1) hi then undef else v) :: wipe lo hi (i + 1) r
def jk (lo hi d : Nat) (x : Value) (J : Nat → Value) (a : Act) : Act := { tmps := (jkL lo hi d x J 0 a.tmps.toList).toArray, defers := a.defers }
theorem jkL_of {lo hi d : Nat} {x : Value} {J : Nat → Value} : ∀ (l l' : List Value) (i : Nat), wipe lo hi i l' = wipe lo hi i l → (∀ j, j < l'.length → J (i + j) = l'.getD j undef) → (∀ j, i + j = d → l'[j]? = some x ∨ l'.length ≤ j) → l' = jkL lo hi d x J i l
  | [], [], _, _, _, _ => rfl
  | [], y :: l', i, h, _, _ => by simp [wipe] at h
  | v :: l, [], i, h, _, _ => by simp [wipe] at h
  | v :: l, y :: l', i, h, hJ, hx => by
    simp only [wipe, List.cons.injEq] at h
    obtain ⟨h1, h2⟩ := h
    have ih := jkL_of (lo := lo) (hi := hi) (d := d) (x := x) (J := J) l l' (i + 1) h2 (fun j hj => by have := hJ (j + 1) (by simpa using hj); rw [show i + 1 + j = i + (j + 1) by omega, this]; simp) (fun j hj => by have := hx (j + 1) (by omega); simpa using this)
    simp only [jkL]
    rw [← ih]
    congr 1
    by_cases hd : i = d
    · subst hd
      have := hx 0 (by omega)
      simp only [List.getElem?_cons_zero, Option.some.injEq, List.length_cons] at this
      have e : y = x := this.resolve_right (by omega)
      rw [if_pos rfl, e]
    · rw [if_neg hd]
      cases hin : (Nat.ble lo i && Nat.ble (i + 1) hi) with
      | true =>
        rw [Bool.and_eq_true] at hin
        rw [if_pos (Nat.le_of_ble_eq_true hin.1), if_pos (show i < hi from Nat.le_of_ble_eq_true hin.2)]
        have := hJ 0 (by simp)
        simpa using this.symm
      | false =>
        rw [hin] at h1
        have e : y = v := by simpa using h1
        by_cases h3 : lo ≤ i
        · by_cases h4 : i < hi
          · rw [Nat.ble_eq_true_of_le h3, Nat.ble_eq_true_of_le h4] at hin
            cases hin
          · rw [if_pos h3, if_neg h4, e]
        · rw [if_neg h3, e]
/-- Behind a piece: but for the places from lo to hi the frame is as it was, and place d holds x. -/
def Piece (lo hi d : Nat) (x : Value) (a a' : Act) : Prop := a'.defers = a.defers ∧ wipe lo hi 0 a'.tmps.toList = wipe lo hi 0 a.tmps.toList ∧ a'.tmps.toList[d]? = some x
theorem Piece.jk {lo hi d : Nat} {x : Value} {a a' : Act} (h : Piece lo hi d x a a') : a' = jk lo hi d x (fun j => a'.tmps.toList.getD j undef) a := by
  obtain ⟨h1, h2, h3⟩ := h
  have := jkL_of (lo := lo) (hi := hi) (d := d) (x := x) (J := fun j => a'.tmps.toList.getD j undef) _ _ 0 h2 (fun j _ => by simp) (fun j hj => .inl (by rw [show j = d by omega]; exact h3))
  unfold QCut.jk
  rw [← this, ← h1]
section
variable {P : Program} {ops : Array Oper} {C : World → Prop} {Q : Act → Prop}
theorem wpQuiet_append {l2 : List Oper} : ∀ {l1 : List Oper} {a : Act}, wpQuiet P ops C (wpQuiet P ops C Q l2) l1 a → wpQuiet P ops C Q (l1 ++ l2) a
  | [], _, h => h
  | o :: r, a, h => by
    simp only [List.cons_append, wpQuiet] at h ⊢
    split
    · rename_i hw
      rw [if_pos hw] at h
      exact Oper.quiet_mono (fun a h => wpQuiet_append h) h
    · rename_i hw
      rw [if_neg hw] at h
      exact wpQuiet_append h
theorem wpQuiet_mono {Q' : Act → Prop} (hq : ∀ a, Q a → Q' a) : ∀ {l : List Oper} {a : Act}, wpQuiet P ops C Q l a → wpQuiet P ops C Q' l a
  | [], _, h => hq _ h
  | o :: r, a, h => by
    simp only [wpQuiet] at h ⊢
    split
    · rename_i hw
      rw [if_pos hw] at h
      exact Oper.quiet_mono (fun a h => wpQuiet_mono hq h) h
    · rename_i hw
      rw [if_neg hw] at h
      exact wpQuiet_mono hq h
/-- All that the operations write lies from lo to hi. -/
def within (lo hi : Nat) (l : List Oper) : Bool := l.all fun o => match o.dst with
  | none => true
  | some d => Nat.ble lo d && Nat.ble (d + 1) hi
theorem wipe_set {lo hi : Nat} {v : Value} : ∀ (l : List Value) (i d : Nat), (Nat.ble lo (i + d) && Nat.ble (i + d + 1) hi) = true → wipe lo hi i (l.set d v) = wipe lo hi i l
  | [], _, _, _ => by simp
  | y :: l, i, 0, h => by
    rw [List.set_cons_zero]
    simp only [wipe]
    rw [Nat.add_zero] at h
    rw [h]
    rfl
  | y :: l, i, d + 1, h => by
    rw [List.set_cons_succ]
    simp only [wipe]
    rw [wipe_set l (i + 1) d (by rw [show i + 1 + d = i + (d + 1) by omega]; exact h)]
def Same (lo hi : Nat) (a a' : Act) : Prop := a'.defers = a.defers ∧ wipe lo hi 0 a'.tmps.toList = wipe lo hi 0 a.tmps.toList
theorem same_put {lo hi : Nat} {a a' : Act} {v : Value} {o : Option Tmp} (h : Same lo hi a a') (ho : (match o with
  | none => true
  | some d => Nat.ble lo d && Nat.ble (d + 1) hi) = true) : Same lo hi a (a'.put o v) := by
  cases o with
  | none => exact h
  | some d =>
    refine ⟨h.1, ?_⟩
    have e : (a'.put (some d) v).tmps.toList = a'.tmps.toList.set d v := by simp [Act.put]
    rw [e, wipe_set _ 0 d (by simpa using ho)]
    exact h.2
theorem wpQuiet_same {lo hi : Nat} {a0 : Act} : ∀ {l : List Oper} {a : Act}, within lo hi l = true → Same lo hi a0 a → wpQuiet P ops C Q l a → wpQuiet P ops C (fun a' => Same lo hi a0 a' ∧ Q a') l a
  | [], _, _, hs, h => ⟨hs, h⟩
  | o :: r, a, hw, hs, h => by
    unfold within at hw
    rw [List.all_cons, Bool.and_eq_true] at hw
    simp only [wpQuiet] at h ⊢
    split
    · rename_i hwt
      rw [if_pos hwt] at h
      obtain ⟨v, h1, h2⟩ := h
      exact ⟨v, h1, wpQuiet_same hw.2 (same_put hs hw.1) h2⟩
    · rename_i hwt
      rw [if_neg hwt] at h
      exact wpQuiet_same hw.2 (same_put hs hw.1) h
/-- A piece of a region, then the rest from a frame whose other places are forgotten: place d holds a Bool of which R holds. -/
theorem wpQuiet_piece {a : Act} {l2 : List Oper} (lo hi d : Nat) (R : Bool → Prop) (l1 : List Oper) (hw : within lo hi l1 = true)
    (h1 : wpQuiet P ops C (fun a' => ∃ c : Bool, R c ∧ a'.tmps.toList[d]? = some (.bool c)) l1 a) (h2 : ∀ (c : Bool) (J : Nat → Value), R c → wpQuiet P ops C Q l2 (jk lo hi d (.bool c) J a)) : wpQuiet P ops C Q (l1 ++ l2) a :=
  wpQuiet_append (wpQuiet_mono (fun a' ⟨hs, c, hc, hp⟩ => by
    have hpc : Piece lo hi d (.bool c) a a' := ⟨hs.1, hs.2, hp⟩
    rw [hpc.jk]
    exact h2 c _ hc) (wpQuiet_same hw ⟨rfl, rfl⟩ h1))
end
/-- Whatever world it is, as long as I holds of it. -/
theorem wp_world {P : Program} {c : Code} {Q : Exit → Act → World → Prop} {a : Act} {W : World} (I : World → Prop) (h0 : I W) (h : ∀ wc, I wc → c.wp P Q a wc) : c.wp P Q a W := h W h0
end Go.Proofs.Ytppifefhpjhmaaa.QCut
