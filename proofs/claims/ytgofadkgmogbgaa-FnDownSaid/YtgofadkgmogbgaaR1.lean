/- Labels' order, what is found under a name, labels with one put in or taken out: plain law. No condition. -/
import Derived.Test.YtgofadkgmogbgaaQ3
set_option maxRecDepth 100000
set_option linter.unusedVariables false
set_option linter.unusedSimpArgs false
namespace Go.Ring
open Go Go.RowKit Go.Eager Go.Abs Go.Proofs
theorem toList_ext {a b : ByteArray} (h : a.data.toList = b.data.toList) : a = b := by
  cases a; cases b; simp only at h; congr; exact Array.ext' h
theorem cmpB_zero {a b : ByteArray} : cmpB a b = 0 ↔ a = b := ⟨fun h => toList_ext ((cmpT_zero _ _).1 h), fun h => by subst h; exact (cmpT_zero _ _).2 rfl⟩
theorem cmpN_lt {a b : Nat} (h : cmpN (a : Int) (b : Int) < 0) : a < b := by
  unfold cmpN at h
  split at h
  · omega
  · split at h <;> omega
theorem cmpN_neg (a b : Int) : cmpN b a = - cmpN a b := by
  unfold cmpN
  split <;> split <;> first | omega | (split <;> omega)
theorem cmpT_neg : ∀ (a b : List UInt8), cmpT b a = - cmpT a b
  | [], [] => rfl
  | [], _ :: _ => rfl
  | _ :: _, [] => rfl
  | x :: a, y :: b => by
    unfold cmpT
    by_cases h : x = y
    · subst h; simp only [if_true]; exact cmpT_neg a b
    · rw [if_neg h, if_neg (fun e => h e.symm)]; exact cmpN_neg _ _
theorem cmpB_neg (a b : ByteArray) : cmpB b a = - cmpB a b := cmpT_neg _ _
theorem cmpT_trans : ∀ (a b c : List UInt8), cmpT a b < 0 → cmpT b c < 0 → cmpT a c < 0
  | [], [], _, h, _ => by simp [cmpT] at h
  | [], _ :: _, [], _, h => by simp [cmpT] at h
  | [], _ :: _, _ :: _, _, _ => by simp [cmpT]
  | _ :: _, [], _, h, _ => by simp [cmpT] at h
  | _ :: _, _ :: _, [], _, h => by simp [cmpT] at h
  | x :: a, y :: b, z :: c, h1, h2 => by
    unfold cmpT at *
    by_cases hxy : x = y
    · subst hxy
      by_cases hxz : x = z
      · subst hxz; simp only [if_true] at *; exact cmpT_trans a b c h1 h2
      · simp only [hxz, if_false, if_true] at *; exact h2
    · by_cases hyz : y = z
      · subst hyz; simp only [hxy, if_false, if_true] at *; exact h1
      · simp only [hxy, hyz, if_false] at h1 h2
        have h3 : x.toNat < y.toNat := cmpN_lt h1
        have h4 : y.toNat < z.toNat := cmpN_lt h2
        have h5 : x ≠ z := by rintro rfl; omega
        simp only [h5, if_false]
        unfold cmpN; rw [if_pos (by omega)]; decide
theorem cmpB_trans {a b c : ByteArray} (h1 : cmpB a b < 0) (h2 : cmpB b c < 0) : cmpB a c < 0 := cmpT_trans _ _ _ h1 h2
theorem cmpLs_neg : ∀ a b : List Label, cmpLs b a = - cmpLs a b
  | [], [] => rfl
  | [], y :: m => by unfold cmpLs; exact cmpN_neg _ _
  | x :: l, [] => by unfold cmpLs; exact cmpN_neg _ _
  | x :: l, y :: m => by
    unfold cmpLs
    rw [cmpB_neg x.name y.name, cmpB_neg x.value y.value, cmpLs_neg l m]
    by_cases h1 : cmpB x.name y.name = 0
    · by_cases h2 : cmpB x.value y.value = 0
      · simp [h1, h2]
      · simp [h1, h2]
    · simp [h1]
theorem cmpLs_zero : ∀ a b : List Label, cmpLs a b = 0 ↔ a = b
  | [], [] => by simp [cmpLs, cmpN]
  | [], y :: m => by simp [cmpLs, cmpN] <;> omega
  | x :: l, [] => by simp [cmpLs, cmpN] <;> omega
  | x :: l, y :: m => by
    unfold cmpLs
    by_cases h1 : cmpB x.name y.name = 0
    · rw [if_neg (by simp [h1])]
      have e1 := cmpB_zero.1 h1
      by_cases h2 : cmpB x.value y.value = 0
      · rw [if_neg (by simp [h2]), cmpLs_zero l m]
        have e2 := cmpB_zero.1 h2
        cases x; cases y
        simp only at e1 e2
        subst e1 e2
        simp
      · rw [if_pos h2]
        have e2 : x.value ≠ y.value := fun e => h2 (cmpB_zero.2 e)
        constructor
        · intro h; exact absurd h h2
        · intro h; simp only [List.cons.injEq] at h; exact absurd (congrArg Label.value h.1) e2
    · rw [if_pos h1]
      have e1 : x.name ≠ y.name := fun e => h1 (cmpB_zero.2 e)
      constructor
      · intro h; exact absurd h h1
      · intro h; simp only [List.cons.injEq] at h; exact absurd (congrArg Label.name h.1) e1
theorem lab_lt {a : List Label} (ha : LabelsOk a) {i : Nat} {x : Label} (hx : a[i]? = some x) : ∀ (n : Nat) (y : Label), a[i + 1 + n]? = some y → cmpB x.name y.name < 0
  | 0, y, hy => (ha.2 (i + 1) y hy).2.2 x (by omega) hx
  | n + 1, y, hy => by
    obtain ⟨z, hz⟩ : ∃ z, a[i + 1 + n]? = some z := by
      have h1 := (List.getElem?_eq_some_iff.1 hy).1
      exact ⟨_, List.getElem?_eq_getElem (by omega)⟩
    exact cmpB_trans (lab_lt ha hx n z hz) ((ha.2 (i + 1 + (n + 1)) y hy).2.2 z (by omega) hz)
theorem lab_split {a : List Label} (ha : LabelsOk a) {i : Nat} {u : Label} (hu : a[i]? = some u) : ∃ p q, a = p ++ u :: q ∧ (∀ x ∈ p, cmpB x.name u.name < 0) ∧ (∀ x ∈ q, cmpB u.name x.name < 0) := by
  obtain ⟨hlt, he⟩ := List.getElem?_eq_some_iff.1 hu
  refine ⟨a.take i, a.drop (i + 1), ?_, fun x hx => ?_, fun x hx => ?_⟩
  · rw [← he, ← List.drop_eq_getElem_cons hlt, List.take_append_drop]
  · obtain ⟨j, hj⟩ := List.mem_iff_getElem?.1 hx
    rw [List.getElem?_take] at hj
    split at hj
    · rename_i hji
      have := lab_lt ha hj (i - j - 1) u (by rw [show j + 1 + (i - j - 1) = i by omega]; exact hu)
      exact this
    · cases hj
  · obtain ⟨j, hj⟩ := List.mem_iff_getElem?.1 hx
    rw [List.getElem?_drop] at hj
    exact lab_lt ha hu j x hj
theorem cmpB_ne {a b : ByteArray} (h : cmpB a b < 0) : ¬ a.data.toList = b.data.toList := fun e => by
  have := cmpB_zero.2 (toList_ext e); omega
theorem cmpB_self (a : ByteArray) : cmpB a a = 0 := cmpB_zero.2 rfl
theorem valOf_app : ∀ (p q : List Label) (u : Label), (∀ x ∈ p, cmpB x.name u.name < 0) → valOf (p ++ u :: q) u.name = u.value
  | [], q, u, _ => by simp [valOf]
  | x :: p, q, u, h => by
    show (if x.name.data.toList = u.name.data.toList then x.value else valOf (p ++ u :: q) u.name) = _
    rw [if_neg (cmpB_ne (h x (by simp)))]
    exact valOf_app p q u fun y hy => h y (List.mem_cons_of_mem _ hy)
theorem valOf_name {a : List Label} (ha : LabelsOk a) {i : Nat} {u : Label} (hu : a[i]? = some u) : valOf a u.name = u.value := by
  obtain ⟨p, q, rfl, h1, _⟩ := lab_split ha hu
  exact valOf_app p q u h1
/-- What is put in ahead of x. -/
def insW (n v : ByteArray) (put : Bool) (x : Label) : Bool := !put && !decide (cmpB x.name n < 0)
def stepW (n v : ByteArray) (put : Bool) (x : Label) : List Label := (if insW n v put x = true then [⟨n, v⟩] else []) ++ (if ¬ x.name.data.toList = n.data.toList then [x] else [])
def withR (n v : ByteArray) : Bool → List Label → List Label
  | put, [] => if put = true then [] else [⟨n, v⟩]
  | put, x :: l => stepW n v put x ++ withR n v (put || insW n v put x) l
def emptyB (v : ByteArray) : Bool := decide (v.data.toList = (⟨#[]⟩ : ByteArray).data.toList)
def withL (l : List Label) (n v : ByteArray) : List Label := withR n v (emptyB v) l
theorem stepW_len (n v : ByteArray) (put : Bool) (x : Label) : (stepW n v put x).length ≤ 2 := by
  unfold stepW; rw [List.length_append]; split <;> split <;> simp
theorem withR_len (n v : ByteArray) : ∀ (l : List Label) (put : Bool), (withR n v put l).length ≤ 2 * l.length + 1
  | [], put => by unfold withR; split <;> simp
  | x :: l, put => by
    have h1 := withR_len n v l (put || insW n v put x)
    have h2 := stepW_len n v put x
    simp only [withR, List.length_append, List.length_cons]; omega
theorem withR_mem (n v : ByteArray) : ∀ (l : List Label) (put : Bool), ∀ y ∈ withR n v put l, y = ⟨n, v⟩ ∨ y ∈ l
  | [], put, y, hy => by
    unfold withR at hy
    split at hy
    · simp at hy
    · simp at hy; exact .inl hy
  | x :: l, put, y, hy => by
    simp only [withR, List.mem_append, stepW] at hy
    rcases hy with (h | h) | h
    · split at h
      · simp at h; exact .inl h
      · simp at h
    · split at h
      · simp at h; exact .inr (by simp [h])
      · simp at h
    · rcases withR_mem n v l _ y h with h | h
      · exact .inl h
      · exact .inr (List.mem_cons_of_mem _ h)
theorem withR_step {n v : ByteArray} {put : Bool} {l : List Label} {k : Nat} {x : Label} (h : l[k]? = some x) : withR n v put (l.drop k) = stepW n v put x ++ withR n v (put || insW n v put x) (l.drop (k + 1)) := by
  obtain ⟨hlt, he⟩ := List.getElem?_eq_some_iff.1 h
  rw [List.drop_eq_getElem_cons hlt, he]; rfl
theorem withR_end {n v : ByteArray} {put : Bool} {l : List Label} {k : Nat} (h : l.length ≤ k) : withR n v put (l.drop k) = if put = true then [] else [⟨n, v⟩] := by rw [List.drop_of_length_le h]; rfl
theorem withR_after {n v : ByteArray} : ∀ q : List Label, (∀ x ∈ q, cmpB n x.name < 0) → withR n v true q = q
  | [], _ => rfl
  | x :: q, h => by
    have h1 := withR_after (v := v) q fun y hy => h y (List.mem_cons_of_mem _ hy)
    have h2 : ¬ x.name.data.toList = n.data.toList := fun e => cmpB_ne (h x (by simp)) e.symm
    simp [withR, stepW, insW, h2, h1]
theorem withR_self {u : Label} : ∀ (p q : List Label), (∀ x ∈ p, cmpB x.name u.name < 0) → (∀ x ∈ q, cmpB u.name x.name < 0) → withR u.name u.value false (p ++ u :: q) = p ++ u :: q
  | [], q, _, h => by
    have h1 := withR_after (v := u.value) q h
    simp [withR, stepW, insW, cmpB_self, h1]
  | x :: p, q, h, h' => by
    have h1 := withR_self p q (fun y hy => h y (List.mem_cons_of_mem _ hy)) h'
    have h2 := h x (by simp)
    have h3 := cmpB_ne h2
    simp [withR, stepW, insW, h2, h3, h1]
theorem value_some {v : ByteArray} (h : valueB v = true) : emptyB v = false := by
  simp only [valueB, Bool.and_eq_true, decide_eq_true_eq] at h
  unfold emptyB
  rw [decide_eq_false_iff_not]
  intro e
  have := len_of v
  rw [e] at this
  simp at this
  omega
theorem withL_self {a : List Label} (ha : LabelsOk a) {i : Nat} {u : Label} (hu : a[i]? = some u) : withL a u.name u.value = a := by
  unfold withL
  rw [value_some (ha.2 i u hu).2.1]
  obtain ⟨p, q, rfl, h1, h2⟩ := lab_split ha hu
  exact withR_self p q h1 h2
theorem valOf_none {n : ByteArray} : ∀ l : List Label, valOf (withR n ⟨#[]⟩ true l) n = ⟨#[]⟩
  | [] => rfl
  | x :: l => by
    have h1 := valOf_none (n := n) l
    by_cases h : x.name.data.toList = n.data.toList
    · simp [withR, stepW, insW, h, h1]
    · have e : withR n ⟨#[]⟩ true (x :: l) = x :: withR n ⟨#[]⟩ true l := by simp [withR, stepW, insW, h]
      rw [e]
      show (if x.name.data.toList = n.data.toList then x.value else valOf (withR n ⟨#[]⟩ true l) n) = _
      rw [if_neg h]; exact h1
theorem valOf_gone (a : List Label) (n : ByteArray) : valOf (withL a n ⟨#[]⟩) n = ⟨#[]⟩ := valOf_none a
theorem hashL_nonneg (x : List Label) : 0 ≤ hashL x := by
  unfold hashL mixI
  have := (mixL_in (labText x).data.toList 1469598103 (by decide) (by decide)).1
  omega
end Go.Ring
