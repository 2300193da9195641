/- Series laid together: the plain law. No condition. -/
import Derived.Test.YtbhkjbfphhfecaaGreatB4
import Derived.Test.YtbhkjbfphhfecaaGreatEg3
set_option maxRecDepth 100000
set_option linter.unusedVariables false
set_option linter.unusedSimpArgs false
namespace Go.Ring
open Go Go.RowKit Go.Eager Go.Abs Go.Proofs
theorem cmpN_neg (a b : Int) : cmpN b a = - cmpN a b := by
  unfold cmpN
  split <;> split <;> first | omega | (split <;> omega)
theorem cmpT_neg : ∀ (a b : List UInt8), cmpT b a = - cmpT a b
  | [], [] => rfl
  | [], _ :: _ => rfl
  | _ :: _, [] => rfl
  | x :: a, y :: b => by
    unfold cmpT
    by_cases h : x = y
    · subst h; simp only [if_true]; exact cmpT_neg a b
    · rw [if_neg h, if_neg (fun e => h e.symm)]; exact cmpN_neg _ _
theorem cmpB_neg (a b : ByteArray) : cmpB b a = - cmpB a b := cmpT_neg _ _
theorem cmpLs_neg : ∀ a b : List Label, cmpLs b a = - cmpLs a b
  | [], [] => rfl
  | [], y :: m => by unfold cmpLs; exact cmpN_neg _ _
  | x :: l, [] => by unfold cmpLs; exact cmpN_neg _ _
  | x :: l, y :: m => by
    unfold cmpLs
    rw [cmpB_neg x.name y.name, cmpB_neg x.value y.value, cmpLs_neg l m]
    by_cases h1 : cmpB x.name y.name = 0
    · by_cases h2 : cmpB x.value y.value = 0
      · simp [h1, h2]
      · simp [h1, h2]
    · simp [h1]
/-- Two rows of samples laid together; of two at one time the first. -/
def mg : List Sample → List Sample → List Sample
  | [], b => b
  | x :: a, [] => x :: a
  | x :: a, y :: b => if x.time < y.time then x :: mg a (y :: b) else if x.time = y.time then x :: mg a b else y :: mg (x :: a) b
termination_by a b => a.length + b.length
theorem mg_nil (a : List Sample) : mg a [] = a := by cases a <;> rw [mg]
theorem mg_lt {x y : Sample} {a b : List Sample} (h : x.time < y.time) : mg (x :: a) (y :: b) = x :: mg a (y :: b) := by rw [mg, if_pos h]
theorem mg_eq {x y : Sample} {a b : List Sample} (h : x.time = y.time) : mg (x :: a) (y :: b) = x :: mg a b := by rw [mg, if_neg (by omega), if_pos h]
theorem mg_gt {x y : Sample} {a b : List Sample} (h : y.time < x.time) : mg (x :: a) (y :: b) = y :: mg (x :: a) b := by rw [mg, if_neg (by omega), if_neg (by omega)]
theorem mg_len (a b : List Sample) : (mg a b).length ≤ a.length + b.length := by
  induction a, b using mg.induct with
  | case1 b => simp [mg]
  | case2 x a => rw [mg_nil]; simp
  | case3 x a y b h ih => rw [mg_lt h]; simp only [List.length_cons] at *; omega
  | case4 x a y b h1 h2 ih => rw [mg_eq h2]; simp only [List.length_cons] at *; omega
  | case5 x a y b h1 h2 ih => rw [mg_gt (by omega)]; simp only [List.length_cons] at *; omega
/-- One series into a row of series. -/
def insS (acc : List Series) (u : Series) : List Series :=
  if fnd u.labels acc = true then (match acc[lowI u.labels acc]? with | some x => acc.set (lowI u.labels acc) ⟨x.labels, mg x.samples u.samples⟩ | none => acc)
  else insAt acc (lowI u.labels acc) u
def mrgS (a b : List Series) : List Series := b.foldl insS a
theorem fnd_get {t : List Label} {l : List Series} (h : fnd t l = true) : ∃ x, l[lowI t l]? = some x ∧ cmpLs x.labels t = 0 := by
  unfold fnd at h
  split at h
  · rename_i x hx; exact ⟨x, hx, of_decide_eq_true h⟩
  · cases h
theorem insS_fnd {acc : List Series} {u x : Series} (h : fnd u.labels acc = true) (hx : acc[lowI u.labels acc]? = some x) : insS acc u = acc.set (lowI u.labels acc) ⟨x.labels, mg x.samples u.samples⟩ := by
  unfold insS; rw [if_pos h, hx]
theorem insS_new {acc : List Series} {u : Series} (h : fnd u.labels acc = false) : insS acc u = insAt acc (lowI u.labels acc) u := by
  unfold insS; rw [if_neg (by rw [h]; simp)]
theorem lowI_lt (t : List Label) : ∀ (l : List Series) (i : Nat) (x : Series), i < lowI t l → l[i]? = some x → cmpLs x.labels t < 0
  | [], i, x, _, h => by simp at h
  | y :: l, i, x, hi, h => by
    unfold lowI at hi
    split at hi
    · rename_i hc
      cases i with
      | zero => simp at h; subst h; exact hc
      | succ i => exact lowI_lt t l i x (by omega) (by simpa using h)
    · omega
theorem lowI_ge (t : List Label) : ∀ (l : List Series) (x : Series), l[lowI t l]? = some x → ¬ cmpLs x.labels t < 0
  | [], x, h => by simp at h
  | y :: l, x, h => by
    unfold lowI at h
    split at h
    · exact lowI_ge t l x (by simpa using h)
    · rename_i hc; simp at h; subst h; exact hc
/-- Where nothing is found all behind are greater. -/
theorem lowI_new {t : List Label} {l : List Series} (hs : Srt l) (hf : fnd t l = false) (j : Nat) (x : Series) (hj : lowI t l ≤ j) (hx : l[j]? = some x) : cmpLs t x.labels < 0 := by
  have key : ∀ y, l[lowI t l]? = some y → cmpLs t y.labels < 0 := fun y hy => by
    have h1 := lowI_ge t l y hy
    have h2 : cmpLs y.labels t ≠ 0 := by
      unfold fnd at hf
      rw [hy] at hf
      exact of_decide_eq_false hf
    have h3 := cmpLs_neg y.labels t
    omega
  rcases Nat.lt_or_ge (lowI t l) j with h | h
  · obtain ⟨y, hy⟩ := sget (l := l) (i := lowI t l) (by have := slt hx; omega)
    exact cmpLs_trans _ _ _ (key y hy) (hs _ _ y x h hy hx)
  · obtain rfl : lowI t l = j := by omega
    exact key x hx
theorem insS_srt {acc : List Series} {u : Series} (hs : Srt acc) : Srt (insS acc u) := by
  cases hf : fnd u.labels acc with
  | true =>
    obtain ⟨x, hx, h0⟩ := fnd_get hf
    rw [insS_fnd hf hx]
    have key : ∀ (j : Nat) (y : Series), (acc.set (lowI u.labels acc) ⟨x.labels, mg x.samples u.samples⟩)[j]? = some y → ∃ z, acc[j]? = some z ∧ z.labels = y.labels := by
      intro j y hy
      rcases set_getG hy with ⟨rfl, rfl⟩ | ⟨_, h2⟩
      · exact ⟨x, hx, rfl⟩
      · exact ⟨y, h2, rfl⟩
    intro i j y z hij hy hz
    obtain ⟨y', h1, e1⟩ := key i y hy
    obtain ⟨z', h2, e2⟩ := key j z hz
    rw [← e1, ← e2]
    exact hs i j y' z' hij h1 h2
  | false =>
    rw [insS_new hf]
    have hp := lowI_le u.labels acc
    intro i j y z hij hy hz
    rw [insAt_get _ _ _ hp] at hy hz
    split at hy
    · rename_i c1
      have hyl := lowI_lt u.labels acc i y c1 hy
      split at hz
      · exact hs i j y z hij hy hz
      · split at hz
        · cases hz; exact hyl
        · exact cmpLs_trans _ _ _ hyl (lowI_new hs hf (j - 1) z (by omega) hz)
    · split at hy
      · cases hy
        rw [if_neg (by omega), if_neg (by omega)] at hz
        exact lowI_new hs hf (j - 1) z (by omega) hz
      · rw [if_neg (by omega), if_neg (by omega)] at hz
        exact hs (i - 1) (j - 1) y z (by omega) hy hz
/-- How much there is of series and samples. -/
def wt : List Series → Nat
  | [] => 0
  | s :: l => s.samples.length + 1 + wt l
theorem wt_app : ∀ a b : List Series, wt (a ++ b) = wt a + wt b
  | [], b => by simp [wt]
  | s :: a, b => by simp only [List.cons_append, wt, wt_app a b]; omega
theorem wt_len : ∀ l : List Series, l.length ≤ wt l
  | [] => Nat.le_refl _
  | s :: l => by have := wt_len l; simp only [List.length_cons, wt]; omega
theorem wt_mem : ∀ {l : List Series} {s : Series}, s ∈ l → s.samples.length + 1 ≤ wt l
  | x :: l, s, h => by
    rcases List.mem_cons.1 h with rfl | h
    · simp only [wt]; omega
    · have := wt_mem h; simp only [wt]; omega
theorem wt_set : ∀ {l : List Series} {i : Nat} {x y : Series}, l[i]? = some x → wt (l.set i y) + x.samples.length = wt l + y.samples.length
  | [], i, x, y, h => by simp at h
  | z :: l, 0, x, y, h => by simp at h; subst h; simp only [List.set_cons_zero, wt]; omega
  | z :: l, i + 1, x, y, h => by have := wt_set (y := y) (show l[i]? = some x by simpa using h); simp only [List.set_cons_succ, wt]; omega
theorem wt_ins (l : List Series) (i : Nat) (x : Series) : wt (insAt l i x) = wt l + (x.samples.length + 1) := by
  unfold insAt
  rw [wt_app, wt_app]
  have := wt_app (l.take i) (l.drop i)
  rw [List.take_append_drop] at this
  simp only [wt]
  omega
theorem insS_wt (acc : List Series) (u : Series) : wt (insS acc u) ≤ wt acc + (u.samples.length + 1) := by
  cases hf : fnd u.labels acc with
  | true =>
    obtain ⟨x, hx, _⟩ := fnd_get hf
    rw [insS_fnd hf hx]
    have h1 := wt_set (y := ⟨x.labels, mg x.samples u.samples⟩) hx
    have h2 := mg_len x.samples u.samples
    simp only at h1
    omega
  | false => rw [insS_new hf, wt_ins]; omega
/-- Labels within bounds. -/
def LbOk (l : List Series) : Prop := ∀ y ∈ l, y.labels.length ≤ 1048576 ∧ ∀ z ∈ y.labels, SLabel z
theorem lb_ss {l : List Series} (h : LbOk l) (hw : wt l ≤ 1048576) : l.length ≤ 1048576 ∧ ∀ y ∈ l, SSeries y :=
  ⟨Nat.le_trans (wt_len l) hw, fun y hy => ⟨h y hy, by have := wt_mem hy; omega⟩⟩
theorem ss_lb {l : List Series} (h : ∀ y ∈ l, SSeries y) : LbOk l := fun y hy => (h y hy).1
theorem insS_lb {acc : List Series} {u : Series} (h : LbOk acc) (hu : u.labels.length ≤ 1048576 ∧ ∀ z ∈ u.labels, SLabel z) : LbOk (insS acc u) := by
  intro y hy
  cases hf : fnd u.labels acc with
  | true =>
    obtain ⟨x, hx, _⟩ := fnd_get hf
    rw [insS_fnd hf hx] at hy
    obtain ⟨j, hj⟩ := List.getElem?_of_mem hy
    rcases set_getG hj with ⟨_, rfl⟩ | ⟨_, h2⟩
    · exact h x (smem hx)
    · exact h y (smem h2)
  | false =>
    rw [insS_new hf] at hy
    unfold insAt at hy
    rw [List.mem_append, List.mem_append] at hy
    rcases hy with (hy | hy) | hy
    · exact h y (List.mem_of_mem_take hy)
    · simp at hy; subst hy; exact hu
    · exact h y (List.mem_of_mem_drop hy)
theorem mrg_step {a b : List Series} {k : Nat} {u : Series} (hu : b[k]? = some u) : mrgS a (b.take (k + 1)) = insS (mrgS a (b.take k)) u := by
  unfold mrgS
  rw [List.take_add_one, hu, Option.toList_some, List.foldl_append]
  rfl
theorem mrg_inv (b : List Series) : ∀ (a : List Series), Srt a → LbOk a → LbOk b → Srt (mrgS a b) ∧ LbOk (mrgS a b) ∧ wt (mrgS a b) ≤ wt a + wt b := by
  induction b with
  | nil => exact fun a h1 h2 _ => ⟨h1, h2, Nat.le_refl _⟩
  | cons u b ih =>
    intro a h1 h2 h3
    obtain ⟨k1, k2, k3⟩ := ih (insS a u) (insS_srt h1) (insS_lb h2 (h3 u (List.mem_cons_self ..))) (fun y hy => h3 y (List.mem_cons_of_mem _ hy))
    refine ⟨k1, k2, ?_⟩
    have := insS_wt a u
    have e : mrgS a (u :: b) = mrgS (insS a u) b := rfl
    rw [e]
    simp only [wt]
    omega
theorem wt_take_le : ∀ (l : List Series) (k : Nat), wt (l.take k) ≤ wt l
  | [], k => by simp [wt]
  | s :: l, 0 => by simp [wt]
  | s :: l, k + 1 => by have := wt_take_le l k; simp only [List.take_succ_cons, wt]; omega
theorem LbOk.take {l : List Series} (h : LbOk l) (k : Nat) : LbOk (l.take k) := fun y hy => h y (List.mem_of_mem_take hy)
/-- What a size takes away. -/
def GW (f : Int → Int) (c : Nat) : Prop := ∀ n, 0 ≤ f n → f n + c ≤ n
theorem take_gw (m : Nat) : GW (fun n => take n m) m := by
  intro n hn; simp only [take] at *; split at hn
  · omega
  · rename_i h; rw [if_neg h]; omega
theorem stp_gw {f g : Int → Int} {a b : Nat} (hf : GW f a) (hg : GW g b) : GW (stp f g) (a + b) := by
  intro n hn
  unfold stp at hn ⊢
  split at hn
  · omega
  · rename_i h
    rw [if_neg h]
    have h1 := hg _ hn
    have h2 := hf n (by omega)
    omega
def sumF {α : Type} (c : α → Nat) : List α → Nat
  | [] => 0
  | x :: l => c x + sumF c l
theorem szAll_gw {α : Type} {f : α → Int → Int} {c : α → Nat} (hf : ∀ x, GW (f x) (c x)) : ∀ (l : List α) (n : Int), 0 ≤ szAll f l n → szAll f l n + sumF c l ≤ n
  | [], n, _ => by simp [szAll, sumF]
  | x :: l, n, h => by
    unfold szAll at h ⊢
    split at h
    · omega
    · rename_i h2
      rw [if_neg h2]
      have h3 := szAll_gw hf l _ h
      have h4 := hf x n (by omega)
      simp only [sumF]
      omega
theorem szSl_gw {α : Type} {f : α → Int → Int} {c : α → Nat} (hf : ∀ x, GW (f x) (c x)) (l : List α) : GW (szSl f l) (l.length + sumF c l) := by
  intro n hn
  unfold szSl at hn ⊢
  split at hn
  · omega
  · rename_i h
    rw [if_neg h]
    have h3 := szAll_gw hf l _ hn
    have h4 := take_gw l.length n (by simp only at *; omega)
    simp only at h4
    omega
theorem gw_le {f : Int → Int} {a b : Nat} (h : GW f a) (hb : b ≤ a) : GW f b := fun n hn => by have := h n hn; omega
theorem zLabel_gw (x : Label) : GW (zLabel x) 0 := gw_le (stp_gw (take_gw x.name.size) (take_gw x.value.size)) (Nat.zero_le _)
theorem zSeries_gw (x : Series) : GW (zSeries x) x.samples.length := gw_le (stp_gw (szSl_gw zLabel_gw x.labels) (take_gw x.samples.length)) (by omega)
theorem sumF_wt : ∀ l : List Series, l.length + sumF (fun s => s.samples.length) l = wt l
  | [] => rfl
  | s :: l => by have := sumF_wt l; simp only [List.length_cons, sumF, wt]; omega
theorem zSeriesS_gw (l : List Series) : GW (zSeriesS l) (wt l) := gw_le (szSl_gw zSeries_gw l) (by have := sumF_wt l; omega)
theorem zStone_gw (x : Stone) : GW (zStone x) 0 := gw_le (szSl_gw zLabel_gw x.labels) (Nat.zero_le _)
theorem zBlock_gw (x : Block) : GW (zBlock x) (wt x.series) := gw_le (stp_gw (zSeriesS_gw x.series) (szSl_gw zStone_gw x.stones)) (by omega)
/-- How much there is in blocks. -/
def wtB (l : List Block) : Nat := sumF (fun b => wt b.series) l
theorem zBlockS_wt {l : List Block} {n : Int} (h : 0 ≤ zBlockS l n) (hn : n ≤ 1048576) : wtB l ≤ 1048576 := by
  have := szSl_gw zBlock_gw l n h
  unfold zBlockS at h
  unfold wtB
  omega
theorem sumF_app {α : Type} (c : α → Nat) : ∀ a b : List α, sumF c (a ++ b) = sumF c a + sumF c b
  | [], b => by simp [sumF]
  | x :: a, b => by simp only [List.cons_append, sumF, sumF_app c a b]; omega
theorem sumF_take {α : Type} (c : α → Nat) {l : List α} {k : Nat} {x : α} (h : l[k]? = some x) : sumF c (l.take (k + 1)) = sumF c (l.take k) + c x := by
  rw [List.take_add_one, h, Option.toList_some, sumF_app]; simp [sumF]
theorem sumF_take_le {α : Type} (c : α → Nat) (l : List α) (k : Nat) : sumF c (l.take k) ≤ sumF c l := by
  have := sumF_app c (l.take k) (l.drop k)
  rw [List.take_append_drop] at this; omega
/-- Some of each, and of some, is no more. -/
theorem wt_fm {g : Series → Option Series} (hg : ∀ s y, g s = some y → y.samples.length ≤ s.samples.length) : ∀ l : List Series, wt (l.filterMap g) ≤ wt l
  | [] => by simp [wt]
  | s :: l => by
    have ih := wt_fm hg l
    rw [List.filterMap_cons]
    split
    · simp only [wt]; omega
    · rename_i y hy
      have := hg s y hy
      simp only [wt]; omega
end Go.Ring
