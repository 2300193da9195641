/- Series laid together: the plain law. No condition. -/
import Derived.Test.YtanilephcohjkaaGreatB4
import Derived.Test.YtanilephcohjkaaGreatEg3
set_option maxRecDepth 100000
set_option linter.unusedVariables false
set_option linter.unusedSimpArgs false
namespace Go.Ring
open Go Go.RowKit Go.Eager Go.Abs Go.Proofs
theorem cmpN_neg (a b : Int) : cmpN b a = - cmpN a b := by
  unfold cmpN
  split <;> split <;> first | omega | (split <;> omega)
theorem cmpT_neg : ∀ (a b : List UInt8), cmpT b a = - cmpT a b
  | [], [] => rfl
  | [], _ :: _ => rfl
  | _ :: _, [] => rfl
  | x :: a, y :: b => by
    unfold cmpT
    by_cases h : x = y
    · subst h; simp only [if_true]; exact cmpT_neg a b
    · rw [if_neg h, if_neg (fun e => h e.symm)]; exact cmpN_neg _ _
theorem cmpB_neg (a b : ByteArray) : cmpB b a = - cmpB a b := cmpT_neg _ _
theorem cmpLs_neg : ∀ a b : List Label, cmpLs b a = - cmpLs a b
  | [], [] => rfl
  | [], y :: m => by unfold cmpLs; exact cmpN_neg _ _
  | x :: l, [] => by unfold cmpLs; exact cmpN_neg _ _
  | x :: l, y :: m => by
    unfold cmpLs
    rw [cmpB_neg x.name y.name, cmpB_neg x.value y.value, cmpLs_neg l m]
    by_cases h1 : cmpB x.name y.name = 0
    · by_cases h2 : cmpB x.value y.value = 0
      · simp [h1, h2]
      · simp [h1, h2]
    · simp [h1]
theorem cmpLs_zero : ∀ a b : List Label, cmpLs a b = 0 ↔ a = b
  | [], [] => by simp [cmpLs, cmpN]
  | [], y :: m => by simp [cmpLs, cmpN] <;> omega
  | x :: l, [] => by simp [cmpLs, cmpN] <;> omega
  | x :: l, y :: m => by
    unfold cmpLs
    by_cases h1 : cmpB x.name y.name = 0
    · rw [if_neg (by simp [h1])]
      have e1 := cmpB_zero.1 h1
      by_cases h2 : cmpB x.value y.value = 0
      · rw [if_neg (by simp [h2]), cmpLs_zero l m]
        have e2 := cmpB_zero.1 h2
        cases x; cases y
        simp only at e1 e2
        subst e1 e2
        simp
      · rw [if_pos h2]
        have e2 : x.value ≠ y.value := fun e => h2 (cmpB_zero.2 e)
        constructor
        · intro h; exact absurd h h2
        · intro h; simp only [List.cons.injEq] at h; exact absurd (congrArg Label.value h.1) e2
    · rw [if_pos h1]
      have e1 : x.name ≠ y.name := fun e => h1 (cmpB_zero.2 e)
      constructor
      · intro h; exact absurd h h1
      · intro h; simp only [List.cons.injEq] at h; exact absurd (congrArg Label.name h.1) e1
/-- Two rows of samples laid together; of two at one time the first. -/
def mg : List Sample → List Sample → List Sample
  | [], b => b
  | x :: a, [] => x :: a
  | x :: a, y :: b => if x.time < y.time then x :: mg a (y :: b) else if x.time = y.time then x :: mg a b else y :: mg (x :: a) b
termination_by a b => a.length + b.length
theorem mg_nil (a : List Sample) : mg a [] = a := by cases a <;> rw [mg]
theorem mg_lt {x y : Sample} {a b : List Sample} (h : x.time < y.time) : mg (x :: a) (y :: b) = x :: mg a (y :: b) := by rw [mg, if_pos h]
theorem mg_eq {x y : Sample} {a b : List Sample} (h : x.time = y.time) : mg (x :: a) (y :: b) = x :: mg a b := by rw [mg, if_neg (by omega), if_pos h]
theorem mg_gt {x y : Sample} {a b : List Sample} (h : y.time < x.time) : mg (x :: a) (y :: b) = y :: mg (x :: a) b := by rw [mg, if_neg (by omega), if_neg (by omega)]
theorem mg_len (a b : List Sample) : (mg a b).length ≤ a.length + b.length := by
  induction a, b using mg.induct with
  | case1 b => simp [mg]
  | case2 x a => rw [mg_nil]; simp
  | case3 x a y b h ih => rw [mg_lt h]; simp only [List.length_cons] at *; omega
  | case4 x a y b h1 h2 ih => rw [mg_eq h2]; simp only [List.length_cons] at *; omega
  | case5 x a y b h1 h2 ih => rw [mg_gt (by omega)]; simp only [List.length_cons] at *; omega
/-- One series into a row of series. -/
def insS (acc : List Series) (u : Series) : List Series :=
  if fnd u.labels acc = true then (match acc[lowI u.labels acc]? with | some x => acc.set (lowI u.labels acc) ⟨x.labels, mg x.samples u.samples⟩ | none => acc)
  else insAt acc (lowI u.labels acc) u
def mrgS (a b : List Series) : List Series := b.foldl insS a
theorem fnd_get {t : List Label} {l : List Series} (h : fnd t l = true) : ∃ x, l[lowI t l]? = some x ∧ cmpLs x.labels t = 0 := by
  unfold fnd at h
  split at h
  · rename_i x hx; exact ⟨x, hx, of_decide_eq_true h⟩
  · cases h
/-- How much there is of series and samples. -/
def wt : List Series → Nat
  | [] => 0
  | s :: l => s.samples.length + 1 + wt l
theorem wt_app : ∀ a b : List Series, wt (a ++ b) = wt a + wt b
  | [], b => by simp [wt]
  | s :: a, b => by simp only [List.cons_append, wt, wt_app a b]; omega
theorem wt_len : ∀ l : List Series, l.length ≤ wt l
  | [] => Nat.le_refl _
  | s :: l => by have := wt_len l; simp only [List.length_cons, wt]; omega
theorem wt_mem : ∀ {l : List Series} {s : Series}, s ∈ l → s.samples.length + 1 ≤ wt l
  | x :: l, s, h => by
    rcases List.mem_cons.1 h with rfl | h
    · simp only [wt]; omega
    · have := wt_mem h; simp only [wt]; omega
/-- Labels within bounds. -/
def LbOk (l : List Series) : Prop := ∀ y ∈ l, y.labels.length ≤ 1048576 ∧ ∀ z ∈ y.labels, SLabel z
theorem lb_ss {l : List Series} (h : LbOk l) (hw : wt l ≤ 1048576) : l.length ≤ 1048576 ∧ ∀ y ∈ l, SSeries y :=
  ⟨Nat.le_trans (wt_len l) hw, fun y hy => ⟨h y hy, by have := wt_mem hy; omega⟩⟩
theorem ss_lb {l : List Series} (h : ∀ y ∈ l, SSeries y) : LbOk l := fun y hy => (h y hy).1
theorem wt_take_le : ∀ (l : List Series) (k : Nat), wt (l.take k) ≤ wt l
  | [], k => by simp [wt]
  | s :: l, 0 => by simp [wt]
  | s :: l, k + 1 => by have := wt_take_le l k; simp only [List.take_succ_cons, wt]; omega
theorem LbOk.take {l : List Series} (h : LbOk l) (k : Nat) : LbOk (l.take k) := fun y hy => h y (List.mem_of_mem_take hy)
/-- What a size takes away. -/
def GW (f : Int → Int) (c : Nat) : Prop := ∀ n, 0 ≤ f n → f n + c ≤ n
theorem take_gw (m : Nat) : GW (fun n => take n m) m := by
  intro n hn; simp only [take] at *; split at hn
  · omega
  · rename_i h; rw [if_neg h]; omega
theorem stp_gw {f g : Int → Int} {a b : Nat} (hf : GW f a) (hg : GW g b) : GW (stp f g) (a + b) := by
  intro n hn
  unfold stp at hn ⊢
  split at hn
  · omega
  · rename_i h
    rw [if_neg h]
    have h1 := hg _ hn
    have h2 := hf n (by omega)
    omega
def sumF {α : Type} (c : α → Nat) : List α → Nat
  | [] => 0
  | x :: l => c x + sumF c l
theorem szAll_gw {α : Type} {f : α → Int → Int} {c : α → Nat} (hf : ∀ x, GW (f x) (c x)) : ∀ (l : List α) (n : Int), 0 ≤ szAll f l n → szAll f l n + sumF c l ≤ n
  | [], n, _ => by simp [szAll, sumF]
  | x :: l, n, h => by
    unfold szAll at h ⊢
    split at h
    · omega
    · rename_i h2
      rw [if_neg h2]
      have h3 := szAll_gw hf l _ h
      have h4 := hf x n (by omega)
      simp only [sumF]
      omega
theorem szSl_gw {α : Type} {f : α → Int → Int} {c : α → Nat} (hf : ∀ x, GW (f x) (c x)) (l : List α) : GW (szSl f l) (l.length + sumF c l) := by
  intro n hn
  unfold szSl at hn ⊢
  split at hn
  · omega
  · rename_i h
    rw [if_neg h]
    have h3 := szAll_gw hf l _ hn
    have h4 := take_gw l.length n (by simp only at *; omega)
    simp only at h4
    omega
theorem gw_le {f : Int → Int} {a b : Nat} (h : GW f a) (hb : b ≤ a) : GW f b := fun n hn => by have := h n hn; omega
theorem zLabel_gw (x : Label) : GW (zLabel x) 0 := gw_le (stp_gw (take_gw x.name.size) (take_gw x.value.size)) (Nat.zero_le _)
theorem zSeries_gw (x : Series) : GW (zSeries x) x.samples.length := gw_le (stp_gw (szSl_gw zLabel_gw x.labels) (take_gw x.samples.length)) (by omega)
theorem sumF_wt : ∀ l : List Series, l.length + sumF (fun s => s.samples.length) l = wt l
  | [] => rfl
  | s :: l => by have := sumF_wt l; simp only [List.length_cons, sumF, wt]; omega
theorem zSeriesS_gw (l : List Series) : GW (zSeriesS l) (wt l) := gw_le (szSl_gw zSeries_gw l) (by have := sumF_wt l; omega)
theorem sumF_app {α : Type} (c : α → Nat) : ∀ a b : List α, sumF c (a ++ b) = sumF c a + sumF c b
  | [], b => by simp [sumF]
  | x :: a, b => by simp only [List.cons_append, sumF, sumF_app c a b]; omega
theorem sumF_take {α : Type} (c : α → Nat) {l : List α} {k : Nat} {x : α} (h : l[k]? = some x) : sumF c (l.take (k + 1)) = sumF c (l.take k) + c x := by
  rw [List.take_add_one, h, Option.toList_some, sumF_app]; simp [sumF]
theorem sumF_take_le {α : Type} (c : α → Nat) (l : List α) (k : Nat) : sumF c (l.take k) ≤ sumF c l := by
  have := sumF_app c (l.take k) (l.drop k)
  rw [List.take_append_drop] at this; omega
end Go.Ring
