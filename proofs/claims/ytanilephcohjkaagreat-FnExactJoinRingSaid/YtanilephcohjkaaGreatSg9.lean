/- Parts of the proof, laid together: B4 B5 J1 J2 B6. No condition. -/
import Derived.Test.YtanilephcohjkaaGreatSg8
import Derived.Test.YtanilephcohjkaaGreatEg3
/- What is chosen of a block: the program; both say the same. No condition beyond the lengths. -/
set_option maxRecDepth 100000
set_option linter.unusedVariables false
set_option linter.unusedSimpArgs false
namespace Go.Ring
open Go Go.RowKit Go.Eager Go.Abs Go.Proofs
theorem le_nil {Γ : Ctx} {t : List (Nat × LV)} {h : List (Nat × Ent)} (n k : Nat) (hk : t.lookup k = some (.sv (.raw (.slice none 0 0)))) : Le Γ ⟨(k, .sv (.sl n [])) :: t, h⟩ ⟨t, h⟩ := by
  rintro a w ⟨ρ, I⟩
  refine ⟨ρ, I.dfr, I.size, I.frm, fun k' lv hk' => ?_, I.ent, I.new, I.sep, I.out, I.inn⟩
  rw [List.lookup_cons] at hk'
  cases hq : (k' == k) with
  | false => simp only [hq] at hk'; exact I.tmp k' lv hk'
  | true =>
    simp only [hq, Option.some.injEq] at hk'
    subst hk'
    obtain rfl : k' = k := by simpa using hq
    exact rep_nil0 (I.tmp k' _ hk)
theorem cL_le {α : Type} {c : α → Nat} {m : Nat} : ∀ (l : List α), (∀ x ∈ l, c x ≤ m) → cL c l ≤ m * l.length
  | [], _ => by simp [cL]
  | x :: l, h => by
    have h1 := cL_le l fun y hy => h y (List.mem_cons_of_mem _ hy)
    have h2 := h x (List.mem_cons_self ..)
    rw [List.length_cons, Nat.mul_succ]
    simp only [cL]
    omega
theorem cSeries_le {s : Series} (h : SSeries s) : cSeries s ≤ 4194304 := by
  have h1 := cL_le (c := cLabel) (m := 2) s.labels fun _ _ => Nat.le_refl _
  have h2 := cL_le (c := cSample) (m := 2) s.samples fun _ _ => Nat.le_refl _
  have h3 := h.1.1
  have h4 := h.2
  unfold cSeries
  omega
end Go.Ring

/- Series laid together: the plain law. No condition. -/
set_option maxRecDepth 100000
set_option linter.unusedVariables false
set_option linter.unusedSimpArgs false
namespace Go.Ring
open Go Go.RowKit Go.Eager Go.Abs Go.Proofs
theorem cmpN_neg (a b : Int) : cmpN b a = - cmpN a b := by
  unfold cmpN
  split <;> split <;> first | omega | (split <;> omega)
theorem cmpT_neg : ∀ (a b : List UInt8), cmpT b a = - cmpT a b
  | [], [] => rfl
  | [], _ :: _ => rfl
  | _ :: _, [] => rfl
  | x :: a, y :: b => by
    unfold cmpT
    by_cases h : x = y
    · subst h; simp only [if_true]; exact cmpT_neg a b
    · rw [if_neg h, if_neg (fun e => h e.symm)]; exact cmpN_neg _ _
theorem cmpB_neg (a b : ByteArray) : cmpB b a = - cmpB a b := cmpT_neg _ _
theorem cmpLs_neg : ∀ a b : List Label, cmpLs b a = - cmpLs a b
  | [], [] => rfl
  | [], y :: m => by unfold cmpLs; exact cmpN_neg _ _
  | x :: l, [] => by unfold cmpLs; exact cmpN_neg _ _
  | x :: l, y :: m => by
    unfold cmpLs
    rw [cmpB_neg x.name y.name, cmpB_neg x.value y.value, cmpLs_neg l m]
    by_cases h1 : cmpB x.name y.name = 0
    · by_cases h2 : cmpB x.value y.value = 0
      · simp [h1, h2]
      · simp [h1, h2]
    · simp [h1]
theorem cmpLs_zero : ∀ a b : List Label, cmpLs a b = 0 ↔ a = b
  | [], [] => by simp [cmpLs, cmpN]
  | [], y :: m => by simp [cmpLs, cmpN] <;> omega
  | x :: l, [] => by simp [cmpLs, cmpN] <;> omega
  | x :: l, y :: m => by
    unfold cmpLs
    by_cases h1 : cmpB x.name y.name = 0
    · rw [if_neg (by simp [h1])]
      have e1 := cmpB_zero.1 h1
      by_cases h2 : cmpB x.value y.value = 0
      · rw [if_neg (by simp [h2]), cmpLs_zero l m]
        have e2 := cmpB_zero.1 h2
        cases x; cases y
        simp only at e1 e2
        subst e1 e2
        simp
      · rw [if_pos h2]
        have e2 : x.value ≠ y.value := fun e => h2 (cmpB_zero.2 e)
        constructor
        · intro h; exact absurd h h2
        · intro h; simp only [List.cons.injEq] at h; exact absurd (congrArg Label.value h.1) e2
    · rw [if_pos h1]
      have e1 : x.name ≠ y.name := fun e => h1 (cmpB_zero.2 e)
      constructor
      · intro h; exact absurd h h1
      · intro h; simp only [List.cons.injEq] at h; exact absurd (congrArg Label.name h.1) e1
def mg : List Sample → List Sample → List Sample
  | [], b => b
  | x :: a, [] => x :: a
  | x :: a, y :: b => if x.time < y.time then x :: mg a (y :: b) else if x.time = y.time then x :: mg a b else y :: mg (x :: a) b
termination_by a b => a.length + b.length
theorem mg_nil (a : List Sample) : mg a [] = a := by cases a <;> rw [mg]
theorem mg_lt {x y : Sample} {a b : List Sample} (h : x.time < y.time) : mg (x :: a) (y :: b) = x :: mg a (y :: b) := by rw [mg, if_pos h]
theorem mg_eq {x y : Sample} {a b : List Sample} (h : x.time = y.time) : mg (x :: a) (y :: b) = x :: mg a b := by rw [mg, if_neg (by omega), if_pos h]
theorem mg_gt {x y : Sample} {a b : List Sample} (h : y.time < x.time) : mg (x :: a) (y :: b) = y :: mg (x :: a) b := by rw [mg, if_neg (by omega), if_neg (by omega)]
theorem mg_len (a b : List Sample) : (mg a b).length ≤ a.length + b.length := by
  induction a, b using mg.induct with
  | case1 b => simp [mg]
  | case2 x a => rw [mg_nil]; simp
  | case3 x a y b h ih => rw [mg_lt h]; simp only [List.length_cons] at *; omega
  | case4 x a y b h1 h2 ih => rw [mg_eq h2]; simp only [List.length_cons] at *; omega
  | case5 x a y b h1 h2 ih => rw [mg_gt (by omega)]; simp only [List.length_cons] at *; omega
theorem fnd_get {t : List Label} {l : List Series} (h : fnd t l = true) : ∃ x, l[lowI t l]? = some x ∧ cmpLs x.labels t = 0 := by
  unfold fnd at h
  split at h
  · rename_i x hx; exact ⟨x, hx, of_decide_eq_true h⟩
  · cases h
def wt : List Series → Nat
  | [] => 0
  | s :: l => s.samples.length + 1 + wt l
theorem wt_len : ∀ l : List Series, l.length ≤ wt l
  | [] => Nat.le_refl _
  | s :: l => by have := wt_len l; simp only [List.length_cons, wt]; omega
theorem wt_mem : ∀ {l : List Series} {s : Series}, s ∈ l → s.samples.length + 1 ≤ wt l
  | x :: l, s, h => by
    rcases List.mem_cons.1 h with rfl | h
    · simp only [wt]; omega
    · have := wt_mem h; simp only [wt]; omega
def LbOk (l : List Series) : Prop := ∀ y ∈ l, y.labels.length ≤ 1048576 ∧ ∀ z ∈ y.labels, SLabel z
theorem lb_ss {l : List Series} (h : LbOk l) (hw : wt l ≤ 1048576) : l.length ≤ 1048576 ∧ ∀ y ∈ l, SSeries y :=
  ⟨Nat.le_trans (wt_len l) hw, fun y hy => ⟨h y hy, by have := wt_mem hy; omega⟩⟩
theorem ss_lb {l : List Series} (h : ∀ y ∈ l, SSeries y) : LbOk l := fun y hy => (h y hy).1
theorem LbOk.take {l : List Series} (h : LbOk l) (k : Nat) : LbOk (l.take k) := fun y hy => h y (List.mem_of_mem_take hy)
def GW (f : Int → Int) (c : Nat) : Prop := ∀ n, 0 ≤ f n → f n + c ≤ n
theorem take_gw (m : Nat) : GW (fun n => take n m) m := by
  intro n hn; simp only [take] at *; split at hn
  · omega
  · rename_i h; rw [if_neg h]; omega
theorem stp_gw {f g : Int → Int} {a b : Nat} (hf : GW f a) (hg : GW g b) : GW (stp f g) (a + b) := by
  intro n hn
  unfold stp at hn ⊢
  split at hn
  · omega
  · rename_i h
    rw [if_neg h]
    have h1 := hg _ hn
    have h2 := hf n (by omega)
    omega
def sumF {α : Type} (c : α → Nat) : List α → Nat
  | [] => 0
  | x :: l => c x + sumF c l
theorem szAll_gw {α : Type} {f : α → Int → Int} {c : α → Nat} (hf : ∀ x, GW (f x) (c x)) : ∀ (l : List α) (n : Int), 0 ≤ szAll f l n → szAll f l n + sumF c l ≤ n
  | [], n, _ => by simp [szAll, sumF]
  | x :: l, n, h => by
    unfold szAll at h ⊢
    split at h
    · omega
    · rename_i h2
      rw [if_neg h2]
      have h3 := szAll_gw hf l _ h
      have h4 := hf x n (by omega)
      simp only [sumF]
      omega
theorem szSl_gw {α : Type} {f : α → Int → Int} {c : α → Nat} (hf : ∀ x, GW (f x) (c x)) (l : List α) : GW (szSl f l) (l.length + sumF c l) := by
  intro n hn
  unfold szSl at hn ⊢
  split at hn
  · omega
  · rename_i h
    rw [if_neg h]
    have h3 := szAll_gw hf l _ hn
    have h4 := take_gw l.length n (by simp only at *; omega)
    simp only at h4
    omega
theorem gw_le {f : Int → Int} {a b : Nat} (h : GW f a) (hb : b ≤ a) : GW f b := fun n hn => by have := h n hn; omega
theorem zLabel_gw (x : Label) : GW (zLabel x) 0 := gw_le (stp_gw (take_gw x.name.size) (take_gw x.value.size)) (Nat.zero_le _)
theorem zSeries_gw (x : Series) : GW (zSeries x) x.samples.length := gw_le (stp_gw (szSl_gw zLabel_gw x.labels) (take_gw x.samples.length)) (by omega)
theorem sumF_wt : ∀ l : List Series, l.length + sumF (fun s => s.samples.length) l = wt l
  | [] => rfl
  | s :: l => by have := sumF_wt l; simp only [List.length_cons, sumF, wt]; omega
theorem zSeriesS_gw (l : List Series) : GW (zSeriesS l) (wt l) := gw_le (szSl_gw zSeries_gw l) (by have := sumF_wt l; omega)
theorem sumF_app {α : Type} (c : α → Nat) : ∀ a b : List α, sumF c (a ++ b) = sumF c a + sumF c b
  | [], b => by simp [sumF]
  | x :: a, b => by simp only [List.cons_append, sumF, sumF_app c a b]; omega
theorem sumF_take {α : Type} (c : α → Nat) {l : List α} {k : Nat} {x : α} (h : l[k]? = some x) : sumF c (l.take (k + 1)) = sumF c (l.take k) + c x := by
  rw [List.take_add_one, h, Option.toList_some, sumF_app]; simp [sumF]
theorem sumF_take_le {α : Type} (c : α → Nat) (l : List α) (k : Nat) : sumF c (l.take k) ≤ sumF c l := by
  have := sumF_app c (l.take k) (l.drop k)
  rw [List.take_append_drop] at this; omega
end Go.Ring

/- Series joined, of two samples at one time the greater: the plain law. No condition. -/
set_option maxRecDepth 100000
set_option linter.unusedVariables false
set_option linter.unusedSimpArgs false
namespace Go.Ring
open Go Go.RowKit Go.Eager Go.Abs Go.Proofs
def SrtS (l : List Sample) : Prop := l.Pairwise fun x y => x.time < y.time
def vat (t : Int) : List Sample → Option Int
  | [] => none
  | s :: l => if s.time = t then some s.value else vat t l
theorem vat_gt {t : Int} : ∀ {l : List Sample}, (∀ x ∈ l, t < x.time) → vat t l = none
  | [], _ => rfl
  | s :: l, h => by
    unfold vat
    have := h s (List.mem_cons_self ..)
    rw [if_neg (by omega)]
    exact vat_gt fun x hx => h x (List.mem_cons_of_mem _ hx)
theorem vat_get {t : Int} : ∀ {l : List Sample} {v : Int}, vat t l = some v → ∃ x ∈ l, x.time = t ∧ x.value = v
  | [], v, h => by simp [vat] at h
  | s :: l, v, h => by
    unfold vat at h
    split at h
    · rename_i e; cases h; exact ⟨s, List.mem_cons_self .., e, rfl⟩
    · obtain ⟨x, hx, h1, h2⟩ := vat_get h; exact ⟨x, List.mem_cons_of_mem _ hx, h1, h2⟩
theorem srtS_ext : ∀ {l m : List Sample}, SrtS l → SrtS m → (∀ t, vat t l = vat t m) → l = m
  | [], [], _, _, _ => rfl
  | [], y :: m, _, _, h => by have := h y.time; simp [vat] at this
  | x :: l, [], _, _, h => by have := h x.time; simp [vat] at this
  | x :: l, y :: m, h1, h2, h => by
    obtain ⟨a1, a2⟩ := List.pairwise_cons.1 h1
    obtain ⟨b1, b2⟩ := List.pairwise_cons.1 h2
    have ht : x.time = y.time := by
      rcases Int.lt_trichotomy x.time y.time with c | c | c
      · exfalso
        have e := h x.time
        rw [vat_gt (l := y :: m) (fun z hz => by
          rcases List.mem_cons.1 hz with rfl | hz
          · exact c
          · have := b1 z hz; omega)] at e
        simp [vat] at e
      · exact c
      · exfalso
        have e := h y.time
        rw [vat_gt (l := x :: l) (fun z hz => by
          rcases List.mem_cons.1 hz with rfl | hz
          · exact c
          · have := a1 z hz; omega)] at e
        simp [vat] at e
    have hv : x.value = y.value := by
      have e := h x.time
      unfold vat at e
      rw [if_pos rfl, if_pos ht.symm] at e
      exact Option.some.inj e
    have hxy : x = y := by cases x; cases y; simp only at ht hv; subst ht hv; rfl
    subst hxy
    congr 1
    refine srtS_ext a2 b2 fun t => ?_
    by_cases c : t = x.time
    · subst c; rw [vat_gt a1, vat_gt b1]
    · have e := h t
      unfold vat at e
      rw [if_neg (fun c' => c c'.symm), if_neg (fun c' => c c'.symm)] at e
      exact e
theorem mg_mem {z : Sample} {a b : List Sample} (h : z ∈ mg a b) : z ∈ a ∨ z ∈ b := by
  induction a, b using mg.induct with
  | case1 b => rw [mg] at h; exact .inr h
  | case2 x a => rw [mg_nil] at h; exact .inl h
  | case3 x a y b hc ih =>
    rw [mg_lt hc] at h
    rcases List.mem_cons.1 h with rfl | h
    · exact .inl (List.mem_cons_self ..)
    · exact (ih h).imp (List.mem_cons_of_mem _) id
  | case4 x a y b h1 h2 ih =>
    rw [mg_eq h2] at h
    rcases List.mem_cons.1 h with rfl | h
    · exact .inl (List.mem_cons_self ..)
    · exact (ih h).imp (List.mem_cons_of_mem _) (List.mem_cons_of_mem _)
  | case5 x a y b h1 h2 ih =>
    rw [mg_gt (by omega)] at h
    rcases List.mem_cons.1 h with rfl | h
    · exact .inr (List.mem_cons_self ..)
    · exact (ih h).imp id (List.mem_cons_of_mem _)
theorem mg_srt {a b : List Sample} (ha : SrtS a) (hb : SrtS b) : SrtS (mg a b) := by
  unfold SrtS at *
  induction a, b using mg.induct with
  | case1 b => rw [mg]; exact hb
  | case2 x a => rw [mg_nil]; exact ha
  | case3 x a y b hc ih =>
    obtain ⟨a1, a2⟩ := List.pairwise_cons.1 ha
    obtain ⟨b1, b2⟩ := List.pairwise_cons.1 hb
    rw [mg_lt hc, List.pairwise_cons]
    refine ⟨fun z hz => ?_, ih a2 hb⟩
    rcases mg_mem hz with hz | hz
    · exact a1 z hz
    · rcases List.mem_cons.1 hz with rfl | hz
      · exact hc
      · have := b1 z hz; omega
  | case4 x a y b h1 h2 ih =>
    obtain ⟨a1, a2⟩ := List.pairwise_cons.1 ha
    obtain ⟨b1, b2⟩ := List.pairwise_cons.1 hb
    rw [mg_eq h2, List.pairwise_cons]
    refine ⟨fun z hz => ?_, ih a2 b2⟩
    rcases mg_mem hz with hz | hz
    · exact a1 z hz
    · have := b1 z hz; omega
  | case5 x a y b h1 h2 ih =>
    obtain ⟨a1, a2⟩ := List.pairwise_cons.1 ha
    obtain ⟨b1, b2⟩ := List.pairwise_cons.1 hb
    rw [mg_gt (by omega), List.pairwise_cons]
    refine ⟨fun z hz => ?_, ih ha b2⟩
    rcases mg_mem hz with hz | hz
    · rcases List.mem_cons.1 hz with rfl | hz
      · omega
      · have := a1 z hz; omega
    · exact b1 z hz
theorem vat_mg {t : Int} {a b : List Sample} (ha : SrtS a) (hb : SrtS b) : vat t (mg a b) = (vat t a).or (vat t b) := by
  unfold SrtS at *
  induction a, b using mg.induct with
  | case1 b => rw [mg]; simp [vat]
  | case2 x a => rw [mg_nil]; simp [vat]
  | case3 x a y b hc ih =>
    obtain ⟨a1, a2⟩ := List.pairwise_cons.1 ha
    rw [mg_lt hc]
    simp only [vat]
    split
    · simp
    · have := ih a2 hb
      simp only [vat] at this
      exact this
  | case4 x a y b h1 h2 ih =>
    obtain ⟨a1, a2⟩ := List.pairwise_cons.1 ha
    obtain ⟨b1, b2⟩ := List.pairwise_cons.1 hb
    rw [mg_eq h2]
    simp only [vat]
    split
    · simp
    · rw [if_neg (by omega)]
      exact ih a2 b2
  | case5 x a y b h1 h2 ih =>
    obtain ⟨a1, a2⟩ := List.pairwise_cons.1 ha
    obtain ⟨b1, b2⟩ := List.pairwise_cons.1 hb
    rw [mg_gt (by omega)]
    by_cases hy : y.time = t
    · rw [vat_gt (l := x :: a) (fun z hz => by
        rcases List.mem_cons.1 hz with rfl | hz
        · omega
        · have := a1 z hz; omega)]
      simp [vat, hy]
    · rw [show vat t (y :: mg (x :: a) b) = vat t (mg (x :: a) b) by rw [vat, if_neg hy], show vat t (y :: b) = vat t b by rw [vat, if_neg hy]]
      exact ih ha b2
def gB (b : List Sample) (x : Sample) : Sample := match vat x.time b with | some v => ⟨x.time, if x.value < v then v else x.value⟩ | none => x
theorem gB_time (b : List Sample) (x : Sample) : (gB b x).time = x.time := by unfold gB; split <;> rfl
def grM (a b : List Sample) : List Sample := (mg a b).map (gB b)
theorem grM_len (a b : List Sample) : (grM a b).length ≤ a.length + b.length := by unfold grM; rw [List.length_map]; exact mg_len a b
theorem map_srt {l b : List Sample} (h : SrtS l) : SrtS (l.map (gB b)) := by
  unfold SrtS at *
  rw [List.pairwise_map]
  exact h.imp fun h => by rw [gB_time, gB_time]; exact h
theorem grM_srt {a b : List Sample} (ha : SrtS a) (hb : SrtS b) : SrtS (grM a b) := map_srt (mg_srt ha hb)
theorem vat_map {t : Int} (b : List Sample) : ∀ l : List Sample, vat t (l.map (gB b)) = (vat t l).map fun v => match vat t b with | some w => if v < w then w else v | none => v
  | [] => rfl
  | x :: l => by
    simp only [List.map_cons, vat, gB_time]
    split
    · rename_i e
      subst e
      unfold gB
      cases vat x.time b <;> rfl
    · exact vat_map b l
def omx : Option Int → Option Int → Option Int
  | none, y => y
  | some v, none => some v
  | some v, some w => some (if v < w then w else v)
theorem vat_grM {t : Int} {a b : List Sample} (ha : SrtS a) (hb : SrtS b) : vat t (grM a b) = omx (vat t a) (vat t b) := by
  unfold grM
  rw [vat_map, vat_mg ha hb]
  cases vat t a <;> cases vat t b <;> simp [omx]
theorem omx_assoc (x y z : Option Int) : omx (omx x y) z = omx x (omx y z) := by
  cases x <;> cases y <;> cases z <;> simp only [omx] <;> (congr 1; (repeat' split) <;> omega)
theorem grM_assoc {a b c : List Sample} (ha : SrtS a) (hb : SrtS b) (hc : SrtS c) : grM (grM a b) c = grM a (grM b c) :=
  srtS_ext (grM_srt (grM_srt ha hb) hc) (grM_srt ha (grM_srt hb hc)) fun t => by
    rw [vat_grM (grM_srt ha hb) hc, vat_grM ha hb, vat_grM ha (grM_srt hb hc), vat_grM hb hc, omx_assoc]
theorem grM_nil {b : List Sample} (hb : SrtS b) : grM [] b = b :=
  srtS_ext (grM_srt (by unfold SrtS; exact List.Pairwise.nil) hb) hb fun t => by rw [vat_grM (by unfold SrtS; exact List.Pairwise.nil) hb]; rfl
def insJ : List Series → Series → List Series
  | [], u => [u]
  | x :: l, u => if cmpLs x.labels u.labels < 0 then x :: insJ l u else if cmpLs x.labels u.labels = 0 then ⟨x.labels, grM x.samples u.samples⟩ :: l else u :: x :: l
theorem insJ_fnd : ∀ {acc : List Series} {u x : Series}, fnd u.labels acc = true → acc[lowI u.labels acc]? = some x → insJ acc u = acc.set (lowI u.labels acc) ⟨x.labels, grM x.samples u.samples⟩
  | [], u, x, _, hx => by simp at hx
  | y :: l, u, x, h, hx => by
    unfold fnd at h
    unfold insJ
    by_cases c : cmpLs y.labels u.labels < 0
    · have e : lowI u.labels (y :: l) = lowI u.labels l + 1 := by rw [lowI, if_pos c]
      rw [if_pos c, e, List.set_cons_succ]
      rw [e, List.getElem?_cons_succ] at h hx
      rw [insJ_fnd (acc := l) (u := u) (x := x) (by unfold fnd; exact h) hx]
    · have e : lowI u.labels (y :: l) = 0 := by rw [lowI, if_neg c]
      rw [e] at h hx
      simp at h hx
      subst hx
      rw [if_neg c, if_pos h, e, List.set_cons_zero]
theorem insJ_new : ∀ {acc : List Series} {u : Series}, fnd u.labels acc = false → insJ acc u = insAt acc (lowI u.labels acc) u
  | [], u, _ => rfl
  | y :: l, u, h => by
    unfold fnd at h
    unfold insJ
    by_cases c : cmpLs y.labels u.labels < 0
    · have e : lowI u.labels (y :: l) = lowI u.labels l + 1 := by rw [lowI, if_pos c]
      rw [e, List.getElem?_cons_succ] at h
      rw [if_pos c, e, insJ_new (acc := l) (u := u) (by unfold fnd; exact h)]
      rfl
    · have e : lowI u.labels (y :: l) = 0 := by rw [lowI, if_neg c]
      rw [e] at h
      simp at h
      rw [if_neg c, if_neg h, e]
      rfl
def jn (a b : List Series) : List Series := b.foldl insJ a
theorem jn_step {a b : List Series} {k : Nat} {u : Series} (hu : b[k]? = some u) : jn a (b.take (k + 1)) = insJ (jn a (b.take k)) u := by
  unfold jn
  rw [List.take_add_one, hu, Option.toList_some, List.foldl_append]
  rfl
def SrtL (l : List Series) : Prop := l.Pairwise fun x y => cmpLs x.labels y.labels < 0
theorem srtL_iff {l : List Series} : SrtL l ↔ Srt l := by
  unfold SrtL
  rw [List.pairwise_iff_getElem]
  constructor
  · intro h i j x y hij hx hy
    obtain ⟨h1, rfl⟩ := List.getElem?_eq_some_iff.1 hx
    obtain ⟨h2, rfl⟩ := List.getElem?_eq_some_iff.1 hy
    exact h i j h1 h2 hij
  · intro h i j hi hj hij
    exact h i j _ _ hij (List.getElem?_eq_getElem hi) (List.getElem?_eq_getElem hj)
def SmS (l : List Series) : Prop := ∀ y ∈ l, SrtS y.samples
theorem insJ_mem : ∀ {acc : List Series} {u s : Series}, s ∈ insJ acc u → s ∈ acc ∨ s = u ∨ ∃ x ∈ acc, s = ⟨x.labels, grM x.samples u.samples⟩ ∧ x.labels = u.labels
  | [], u, s, h => by simp [insJ] at h; exact .inr (.inl h)
  | x :: l, u, s, h => by
    unfold insJ at h
    split at h
    · rcases List.mem_cons.1 h with rfl | h
      · exact .inl (List.mem_cons_self ..)
      · rcases insJ_mem h with h | h | ⟨y, hy, h⟩
        · exact .inl (List.mem_cons_of_mem _ h)
        · exact .inr (.inl h)
        · exact .inr (.inr ⟨y, List.mem_cons_of_mem _ hy, h⟩)
    · split at h
      · rename_i c
        rcases List.mem_cons.1 h with rfl | h
        · exact .inr (.inr ⟨x, List.mem_cons_self .., rfl, (cmpLs_zero _ _).1 c⟩)
        · exact .inl (List.mem_cons_of_mem _ h)
      · rcases List.mem_cons.1 h with rfl | h
        · exact .inr (.inl rfl)
        · exact .inl h
theorem insJ_srt : ∀ {acc : List Series} {u : Series}, SrtL acc → SrtL (insJ acc u)
  | [], u, _ => by simp [insJ, SrtL]
  | x :: l, u, h => by
    obtain ⟨h1, h2⟩ := List.pairwise_cons.1 h
    unfold insJ
    split
    · rename_i c
      refine List.pairwise_cons.2 ⟨fun s hs => ?_, insJ_srt h2⟩
      rcases insJ_mem hs with hs | rfl | ⟨y, hy, rfl, _⟩
      · exact h1 s hs
      · exact c
      · exact h1 y hy
    · split
      · exact List.pairwise_cons.2 ⟨fun s hs => h1 s hs, h2⟩
      · rename_i c1 c2
        have c3 : cmpLs u.labels x.labels < 0 := by have := cmpLs_neg x.labels u.labels; omega
        refine List.pairwise_cons.2 ⟨fun s hs => ?_, h⟩
        rcases List.mem_cons.1 hs with rfl | hs
        · exact c3
        · exact cmpLs_trans _ _ _ c3 (h1 s hs)
theorem insJ_sm {acc : List Series} {u : Series} (h : SmS acc) (hu : SrtS u.samples) : SmS (insJ acc u) := fun s hs => by
  rcases insJ_mem hs with hs | rfl | ⟨y, hy, rfl, _⟩
  · exact h s hs
  · exact hu
  · exact grM_srt (h y hy) hu
theorem insJ_lb {acc : List Series} {u : Series} (h : LbOk acc) (hu : u.labels.length ≤ 1048576 ∧ ∀ z ∈ u.labels, SLabel z) : LbOk (insJ acc u) := fun s hs => by
  rcases insJ_mem hs with hs | rfl | ⟨y, hy, rfl, _⟩
  · exact h s hs
  · exact hu
  · exact h y hy
theorem insJ_wt : ∀ (acc : List Series) (u : Series), wt (insJ acc u) ≤ wt acc + (u.samples.length + 1)
  | [], u => by simp [insJ, wt]
  | x :: l, u => by
    have ih := insJ_wt l u
    have hg := grM_len x.samples u.samples
    unfold insJ
    split
    · simp only [wt]; omega
    · split <;> simp only [wt] <;> omega
theorem jn_inv (b : List Series) : ∀ (a : List Series), SrtL a → SmS a → LbOk a → SmS b → LbOk b → SrtL (jn a b) ∧ SmS (jn a b) ∧ LbOk (jn a b) ∧ wt (jn a b) ≤ wt a + wt b := by
  induction b with
  | nil => exact fun a h1 h2 h3 _ _ => ⟨h1, h2, h3, Nat.le_refl _⟩
  | cons u b ih =>
    intro a h1 h2 h3 h4 h5
    obtain ⟨k1, k2, k3, k4⟩ := ih (insJ a u) (insJ_srt h1) (insJ_sm h2 (h4 u (List.mem_cons_self ..))) (insJ_lb h3 (h5 u (List.mem_cons_self ..))) (fun y hy => h4 y (List.mem_cons_of_mem _ hy)) (fun y hy => h5 y (List.mem_cons_of_mem _ hy))
    have e : jn a (u :: b) = jn (insJ a u) b := rfl
    rw [e]
    refine ⟨k1, k2, k3, ?_⟩
    have := insJ_wt a u
    simp only [wt]
    omega
open Classical in
noncomputable def lk (t : List Label) : List Series → Option (List Sample)
  | [] => none
  | s :: l => if s.labels = t then some s.samples else lk t l
theorem lk_none {t : List Label} : ∀ {l : List Series}, (∀ s ∈ l, s.labels ≠ t) → lk t l = none
  | [], _ => rfl
  | s :: l, h => by
    unfold lk
    rw [if_neg (h s (List.mem_cons_self ..))]
    exact lk_none fun x hx => h x (List.mem_cons_of_mem _ hx)
theorem lk_mem {t : List Label} : ∀ {l : List Series} {q : List Sample}, lk t l = some q → ∃ s ∈ l, s.labels = t ∧ s.samples = q
  | [], q, h => by simp [lk] at h
  | s :: l, q, h => by
    unfold lk at h
    split at h
    · rename_i e; cases h; exact ⟨s, List.mem_cons_self .., e, rfl⟩
    · obtain ⟨x, hx, h1, h2⟩ := lk_mem h; exact ⟨x, List.mem_cons_of_mem _ hx, h1, h2⟩
theorem cmpLs_self (t : List Label) : cmpLs t t = 0 := (cmpLs_zero t t).2 rfl
theorem lk_behind {x : Series} {l : List Series} (h : ∀ y ∈ l, cmpLs x.labels y.labels < 0) : lk x.labels l = none := lk_none fun s hs e => by
  have := h s hs
  rw [e, cmpLs_self] at this
  omega
theorem lk_ext : ∀ {l m : List Series}, SrtL l → SrtL m → (∀ t, lk t l = lk t m) → l = m
  | [], [], _, _, _ => rfl
  | [], y :: m, _, _, h => by have := h y.labels; simp [lk] at this
  | x :: l, [], _, _, h => by have := h x.labels; simp [lk] at this
  | x :: l, y :: m, h1, h2, h => by
    obtain ⟨a1, a2⟩ := List.pairwise_cons.1 h1
    obtain ⟨b1, b2⟩ := List.pairwise_cons.1 h2
    have ht : x.labels = y.labels := by
      rcases Int.lt_trichotomy (cmpLs x.labels y.labels) 0 with c | c | c
      · exfalso
        have e := h x.labels
        rw [lk_behind (l := y :: m) (fun z hz => by
          rcases List.mem_cons.1 hz with rfl | hz
          · exact c
          · exact cmpLs_trans _ _ _ c (b1 z hz))] at e
        simp [lk] at e
      · exact (cmpLs_zero _ _).1 c
      · exfalso
        have c' : cmpLs y.labels x.labels < 0 := by have := cmpLs_neg x.labels y.labels; omega
        have e := h y.labels
        rw [lk_behind (l := x :: l) (fun z hz => by
          rcases List.mem_cons.1 hz with rfl | hz
          · exact c'
          · exact cmpLs_trans _ _ _ c' (a1 z hz))] at e
        simp [lk] at e
    have hv : x.samples = y.samples := by
      have e := h x.labels
      unfold lk at e
      rw [if_pos rfl, if_pos ht.symm] at e
      exact Option.some.inj e
    have hxy : x = y := by cases x; cases y; simp only at ht hv; subst ht hv; rfl
    subst hxy
    congr 1
    refine lk_ext a2 b2 fun t => ?_
    by_cases c : x.labels = t
    · subst c; rw [lk_behind a1, lk_behind b1]
    · have e := h t
      unfold lk at e
      rw [if_neg c, if_neg c] at e
      exact e
def op2 : Option (List Sample) → Option (List Sample) → Option (List Sample)
  | none, y => y
  | some p, none => some p
  | some p, some q => some (grM p q)
open Classical in
theorem lk_insJ {t : List Label} : ∀ {acc : List Series} {u : Series}, SrtL acc → lk t (insJ acc u) = if u.labels = t then op2 (lk t acc) (some u.samples) else lk t acc
  | [], u, _ => by simp [insJ, lk, op2]
  | x :: l, u, h => by
    obtain ⟨h1, h2⟩ := List.pairwise_cons.1 h
    unfold insJ
    split
    · rename_i c
      have hne : x.labels ≠ u.labels := fun e => by rw [e, cmpLs_self] at c; omega
      by_cases e : x.labels = t
      · have e2 : ¬ (u.labels = t) := fun e2 => hne (e.trans e2.symm)
        simp [lk, e, e2]
      · have ih := lk_insJ (t := t) (acc := l) (u := u) h2
        simp only [lk, if_neg e]
        exact ih
    · split
      · rename_i c1 c2
        have e0 := (cmpLs_zero _ _).1 c2
        by_cases e : x.labels = t
        · have e2 : u.labels = t := e0.symm.trans e
          simp [lk, e, e2, op2]
        · have e2 : ¬ (u.labels = t) := fun e2 => e (e0.trans e2)
          simp [lk, e, e2]
      · rename_i c1 c2
        have c3 : cmpLs u.labels x.labels < 0 := by have := cmpLs_neg x.labels u.labels; omega
        by_cases e2 : u.labels = t
        · subst e2
          rw [if_pos rfl, lk_behind (x := u) (l := x :: l) (fun z hz => by
            rcases List.mem_cons.1 hz with rfl | hz
            · exact c3
            · exact cmpLs_trans _ _ _ c3 (h1 z hz))]
          simp [lk, op2]
        · rw [if_neg e2]
          rw [show lk t (u :: x :: l) = lk t (x :: l) by rw [lk, if_neg e2]]
theorem lk_jn {t : List Label} : ∀ {b a : List Series}, SrtL a → SrtL b → lk t (jn a b) = op2 (lk t a) (lk t b)
  | [], a, _, _ => by
    show lk t a = op2 (lk t a) none
    cases lk t a <;> rfl
  | u :: b, a, ha, hb => by
    obtain ⟨h1, h2⟩ := List.pairwise_cons.1 hb
    have e : jn a (u :: b) = jn (insJ a u) b := rfl
    rw [e, lk_jn (insJ_srt ha) h2, lk_insJ ha]
    by_cases c : u.labels = t
    · subst c
      rw [if_pos rfl, lk_behind h1]
      rw [show lk u.labels (u :: b) = some u.samples by rw [lk, if_pos rfl]]
      cases lk u.labels a <;> rfl
    · rw [if_neg c]
      rw [show lk t (u :: b) = lk t b by rw [lk, if_neg c]]
theorem lk_srt {t : List Label} {l : List Series} {q : List Sample} (h : SmS l) (hq : lk t l = some q) : SrtS q := by
  obtain ⟨s, hs, _, rfl⟩ := lk_mem hq
  exact h s hs
theorem op2_assoc {x y z : Option (List Sample)} (hx : ∀ q, x = some q → SrtS q) (hy : ∀ q, y = some q → SrtS q) (hz : ∀ q, z = some q → SrtS q) : op2 (op2 x y) z = op2 x (op2 y z) := by
  cases x <;> cases y <;> cases z <;> simp only [op2]
  rw [grM_assoc (hx _ rfl) (hy _ rfl) (hz _ rfl)]
theorem jn_assoc {a b c : List Series} (ha : SrtL a) (hb : SrtL b) (hc : SrtL c) (sa : SmS a) (sb : SmS b) (sc : SmS c) (la : LbOk a) (lb : LbOk b) (lc : LbOk c) : jn (jn a b) c = jn a (jn b c) := by
  obtain ⟨h1, h2, _, _⟩ := jn_inv b a ha sa la sb lb
  obtain ⟨h3, h4, h5, _⟩ := jn_inv c b hb sb lb sc lc
  obtain ⟨k1, _, _, _⟩ := jn_inv c (jn a b) h1 h2 (jn_inv b a ha sa la sb lb).2.2.1 sc lc
  obtain ⟨k2, _, _, _⟩ := jn_inv (jn b c) a ha sa la h4 h5
  refine lk_ext k1 k2 fun t => ?_
  rw [lk_jn h1 hc, lk_jn ha hb, lk_jn ha h3, lk_jn hb hc]
  exact op2_assoc (fun q hq => lk_srt sa hq) (fun q hq => lk_srt sb hq) (fun q hq => lk_srt sc hq)
theorem srtL_filter {l : List Series} (h : SrtL l) (f : Series → Bool) : SrtL (l.filter f) := List.Pairwise.filter f h
theorem lk_filter {t : List Label} (f : List Label → Bool) : ∀ {l : List Series}, lk t (l.filter fun s => f s.labels) = if f t = true then lk t l else none
  | [] => by simp [lk]
  | s :: l => by
    have ih := lk_filter (t := t) f (l := l)
    rw [List.filter_cons]
    by_cases c : s.labels = t
    · subst c
      by_cases hf : f s.labels = true
      · simp [hf, lk]
      · rw [if_neg hf, ih, if_neg hf, if_neg hf]
    · by_cases hf : f s.labels = true
      · rw [if_pos hf]
        simp only [lk, if_neg c]
        exact ih
      · rw [if_neg hf, ih]
        simp only [lk, if_neg c]
theorem filter_jn {a b : List Series} (ha : SrtL a) (hb : SrtL b) (sa : SmS a) (sb : SmS b) (la : LbOk a) (lb : LbOk b) (f : List Label → Bool) : (jn a b).filter (fun s => f s.labels) = jn (a.filter fun s => f s.labels) (b.filter fun s => f s.labels) := by
  have hm : ∀ {l : List Series}, SmS l → SmS (l.filter fun s => f s.labels) := fun h y hy => h y (List.mem_filter.1 hy).1
  have hl : ∀ {l : List Series}, LbOk l → LbOk (l.filter fun s => f s.labels) := fun h y hy => h y (List.mem_filter.1 hy).1
  refine lk_ext (srtL_filter (jn_inv b a ha sa la sb lb).1 _) (jn_inv _ _ (srtL_filter ha _) (hm sa) (hl la) (hm sb) (hl lb)).1 fun t => ?_
  rw [lk_filter, lk_jn ha hb, lk_jn (srtL_filter ha _) (srtL_filter hb _), lk_filter, lk_filter]
  split <;> rfl
end Go.Ring

/- Good series, and one more joined: the plain law. No condition. -/
set_option maxRecDepth 100000
set_option linter.unusedVariables false
set_option linter.unusedSimpArgs false
namespace Go.Ring
open Go Go.RowKit Go.Eager Go.Abs Go.Proofs
theorem smp_iff {q : List Sample} : SamplesOk q ↔ q.length ≤ 2000 ∧ (∀ x ∈ q, TimeOk x.time) ∧ SrtS q := by
  unfold SamplesOk SampleAt
  constructor
  · rintro ⟨h1, h2⟩
    refine ⟨h1, fun x hx => ?_, ?_⟩
    · obtain ⟨i, hi⟩ := List.getElem?_of_mem hx
      exact (h2 i x hi).1
    · have key : ∀ (j i : Nat) (x y : Sample), i < j → q[i]? = some x → q[j]? = some y → x.time < y.time := by
        intro j
        induction j with
        | zero => intro i x y h; omega
        | succ j ih =>
          intro i x y hij hx hy
          obtain ⟨p, hp⟩ := sget (l := q) (i := j) (by have := slt hy; omega)
          have h3 := (h2 (j + 1) y hy).2 p (by omega) hp
          rcases Nat.lt_or_ge i j with h | h
          · have := ih i x p h hx hp; omega
          · obtain rfl : i = j := by omega
            rw [hx] at hp; cases hp; exact h3
      exact List.pairwise_iff_getElem.2 fun i j hi hj hij => key j i _ _ hij (List.getElem?_eq_getElem hi) (List.getElem?_eq_getElem hj)
  · rintro ⟨h1, h2, h3⟩
    refine ⟨h1, fun i x hx => ⟨h2 x (smem hx), fun p h0 hp => ?_⟩⟩
    have h4 := slt hx
    have h5 := slt hp
    have := List.pairwise_iff_getElem.1 h3 (i - 1) i h5 h4 (by omega)
    rw [(List.getElem?_eq_some_iff.1 hx).2, (List.getElem?_eq_some_iff.1 hp).2] at this
    exact this
def OneS (x : Series) : Prop := LabelsOk x.labels ∧ hasNm x.labels = true ∧ SamplesOk x.samples ∧ x.samples.length ≠ 0
theorem ser_iff {l : List Series} : SeriesOk l ↔ l.length ≤ 200 ∧ (∀ x ∈ l, OneS x) ∧ SrtL l := by
  unfold SeriesOk SeriesAt
  constructor
  · rintro ⟨h1, h2⟩
    refine ⟨h1, fun x hx => ?_, srtL_iff.2 (srt_of fun i x hx => (h2 i x hx).2.2.2.2)⟩
    obtain ⟨i, hi⟩ := List.getElem?_of_mem hx
    obtain ⟨a, b, c, d, _⟩ := h2 i x hi
    exact ⟨a, b, c, d⟩
  · rintro ⟨h1, h2, h3⟩
    refine ⟨h1, fun i x hx => ?_⟩
    obtain ⟨a, b, c, d⟩ := h2 x (smem hx)
    exact ⟨a, b, c, d, fun p h0 hp => srtL_iff.1 h3 (i - 1) i p x (by omega) hp hx⟩
theorem ser_srt {l : List Series} (h : SeriesOk l) : SrtL l := (ser_iff.1 h).2.2
theorem ser_sm {l : List Series} (h : SeriesOk l) : SmS l := fun y hy => (smp_iff.1 ((ser_iff.1 h).2.1 y hy).2.2.1).2.2
theorem mg_ne {a b : List Sample} (h : b.length ≠ 0) : (mg a b).length ≠ 0 := by
  induction a, b using mg.induct with
  | case1 b => rw [mg]; exact h
  | case2 x a => rw [mg_nil]; simp
  | case3 x a y b hc ih => rw [mg_lt hc]; simp
  | case4 x a y b h1 h2 ih => rw [mg_eq h2]; simp
  | case5 x a y b h1 h2 ih => rw [mg_gt (by omega)]; simp
theorem insJ_len_fnd {l : List Series} {u x : Series} (h : fnd u.labels l = true) (hx : l[lowI u.labels l]? = some x) : (insJ l u).length = l.length := by rw [insJ_fnd h hx, List.length_set]
theorem insJ_len_new {l : List Series} {u : Series} (h : fnd u.labels l = false) : (insJ l u).length = l.length + 1 := by rw [insJ_new h]; exact insAt_len _ _ _ (lowI_le _ _)
def jnAll (ls : List (List Series)) (a : List Series) : List Series := ls.foldl jn a
structure Nice (l : List Series) : Prop where
  s : SrtL l
  m : SmS l
  b : LbOk l
theorem Nice.jn {a b : List Series} (ha : Nice a) (hb : Nice b) : Nice (jn a b) := by
  obtain ⟨h1, h2, h3, _⟩ := jn_inv b a ha.s ha.m ha.b hb.m hb.b
  exact ⟨h1, h2, h3⟩
theorem Nice.filter {a : List Series} (ha : Nice a) (f : Series → Bool) : Nice (a.filter f) :=
  ⟨srtL_filter ha.s f, fun y hy => ha.m y (List.mem_filter.1 hy).1, fun y hy => ha.b y (List.mem_filter.1 hy).1⟩
theorem nice_nil : Nice [] := ⟨by unfold SrtL; exact List.Pairwise.nil, fun y h => by simp at h, fun y h => by simp at h⟩
theorem jn_wt {a b : List Series} (ha : Nice a) (hb : Nice b) : wt (jn a b) ≤ wt a + wt b := (jn_inv b a ha.s ha.m ha.b hb.m hb.b).2.2.2
theorem jnAll_nice : ∀ {ls : List (List Series)} {a : List Series}, Nice a → (∀ l ∈ ls, Nice l) → Nice (jnAll ls a)
  | [], a, ha, _ => ha
  | l :: ls, a, ha, h => jnAll_nice (ls := ls) (ha.jn (h l (List.mem_cons_self ..))) fun x hx => h x (List.mem_cons_of_mem _ hx)
theorem jnAll_wt : ∀ {ls : List (List Series)} {a : List Series}, Nice a → (∀ l ∈ ls, Nice l) → wt (jnAll ls a) ≤ wt a + sumF wt ls
  | [], a, ha, _ => Nat.le_refl _
  | l :: ls, a, ha, h => by
    have h1 := h l (List.mem_cons_self ..)
    have h2 := jnAll_wt (ls := ls) (ha.jn h1) fun x hx => h x (List.mem_cons_of_mem _ hx)
    have h3 := jn_wt ha h1
    show wt (jnAll ls (Go.Ring.jn a l)) ≤ _
    simp only [sumF]
    omega
theorem jnAll_filter (f : List Label → Bool) {own : List Series} (ho : Nice own) : ∀ (ls : List (List Series)) (g : List Series), Nice g → (∀ l ∈ ls, Nice l) →
    jnAll (ls.map fun l => l.filter fun s => f s.labels) (jn own (g.filter fun s => f s.labels)) = jn own ((jnAll ls g).filter fun s => f s.labels)
  | [], g, _, _ => rfl
  | l :: ls, g, hg, h => by
    have hl := h l (List.mem_cons_self ..)
    have ih := jnAll_filter f ho ls (jn g l) (hg.jn hl) fun x hx => h x (List.mem_cons_of_mem _ hx)
    show jnAll _ (jn (jn own (g.filter fun s => f s.labels)) (l.filter fun s => f s.labels)) = _
    have hgf := hg.filter fun s => f s.labels
    have hlf := hl.filter fun s => f s.labels
    rw [jn_assoc ho.s hgf.s hlf.s ho.m hgf.m hlf.m ho.b hgf.b hlf.b, ← filter_jn hg.s hl.s hg.m hl.m hg.b hl.b]
    exact ih
theorem jn_nil (a : List Series) : jn a [] = a := rfl
theorem repaired_eq (f : List Label → Bool) {own : List Series} (ho : Nice own) (ls : List (List Series)) (h : ∀ l ∈ ls, Nice l) : jnAll (ls.map fun l => l.filter fun s => f s.labels) own = jn own ((jnAll ls []).filter fun s => f s.labels) := by
  have := jnAll_filter f ho ls [] nice_nil h
  simpa [jn_nil] using this
end Go.Ring

/- Copies of samples and series, two rows of samples laid together: program and reference. No condition beyond the lengths. -/
set_option maxRecDepth 100000
set_option linter.unusedVariables false
set_option linter.unusedSimpArgs false
namespace Go.Ring
open Go Go.RowKit Go.Eager Go.Abs Go.Proofs
theorem f167_t (x : List Sample) (hx : x.length ≤ 1048576) : PFnT Tryz.prog 167 [eSampleS x] (eSampleS x) := by
  refine fnp_ok (n := 8) Tryz.func167 rfl rfl rfl (Nat.le_of_ble_eq_true rfl) rfl fun w0 O => ?_
  refine ok_seq fun K1 h1 => ok_region rfl (q_as _ rfl (run_nil (h1 _ ?_)))
  refine ok_seq fun K2 h2 => ?_
  refine ok_seq fun K3 h3 => ok_region rfl (q_mv _ rfl (q_eqn Tryz.underlying123 rfl (fun b hb => run_nil (h3 _ ?_))))
  refine ok_cond rfl (fun c4 => ?_) (fun c4 => ?_)
  · have hn : x = [] := by have := hb c4; simpa using this
    subst hn
    refine ok_seq fun K5 h5 => ?_
    refine ok_region rfl (q_as _ rfl (run_nil (h5 _ ?_)))
    exact ok_nilT 2 (ok_ret ⟨_, ⟨_, _, rfl, rfl, rfl⟩, .tr _ _ _ _, fun b hb => (zn_tr hb).elim⟩)
  · refine ok_skip (h2 _ ?_)
    rcases x with _ | ⟨u, x⟩
    · refine ok_seq fun K6 h6 => ok_region rfl (q_lito0 _ el123 ze122 (by decide) rfl rfl (q_mv _ rfl (q_appE el123 rfl rfl rfl (q_ao _ rfl (run_nil (h6 _ ?_))))))
      obtain ⟨g1, g2, g3⟩ := gd_flatL (rs := ([] : List Sample).map eSample) (fun r hr => by obtain ⟨y, _, rfl⟩ := List.mem_map.1 hr; rfl)
      refine ok_treed (k := 5) (n := 2) (T := 122) (rs := ([] : List Sample).map eSample) (ss := ([] : List Sample).map eSample) rfl rfl g1 g2 (fun r hr b hb => (g3 r hr b hb).elim) (fun Z v hZ => ?_)
      exact ok_ret ⟨_, ⟨_, _, rfl, rfl, rfl⟩, .tr Z 2 _ v, fun b hb => (hZ b (zn_tr hb)).elim id fun h => h.elim⟩
    · refine ok_seq fun K6 h6 => ok_region rfl (q_lito0 _ el123 ze122 (by decide) rfl rfl (q_mv _ rfl (q_app _ el123 ze122 rfl by122 rfl rfl rfl rfl rfl (by simp) (by intro s hs; obtain ⟨y, _, rfl⟩ := List.mem_map.1 hs; exact .inl ⟨_, rfl⟩) (by simp only [List.length_map, List.length_cons, List.length_nil] at hx ⊢; unfold maxLen; omega) (by simp only [List.length_map, List.length_cons, List.length_nil] at hx ⊢; omega) (q_ao _ rfl (run_nil (h6 _ ?_))))))
      obtain ⟨g1, g2, g3⟩ := gd_flatL (rs := (u :: x).map eSample) (fun r hr => by obtain ⟨y, _, rfl⟩ := List.mem_map.1 hr; rfl)
      refine ok_treed (k := 7) (n := 2) (T := 122) (rs := (u :: x).map eSample) (ss := (u :: x).map eSample) rfl rfl g1 g2 (fun r hr b hb => (g3 r hr b hb).elim) (fun Z v hZ => ?_)
      exact ok_ret ⟨_, ⟨_, _, rfl, rfl, rfl⟩, .tr Z 2 _ v, fun b hb => (hZ b (zn_tr hb)).elim id fun h => h.elim⟩
theorem f193_t (x : List Sample) (hx : x.length ≤ 1048576) : PFnT Tryz.prog 193 [eSampleS x] (eSampleS x) := by
  refine fnp_ok (n := 7) Tryz.func193 rfl rfl rfl (Nat.le_of_ble_eq_true rfl) rfl fun w0 O => ?_
  refine ok_seq fun K1 h1 => ok_region rfl (q_as _ rfl (run_nil (h1 _ ?_)))
  refine ok_seq fun K2 h2 => ok_region rfl (q_an (n := 2) 122 (by decide) rfl rfl rfl (run_nil (h2 _ ?_)))
  rcases x with _ | ⟨u, x⟩
  · refine ok_seq fun K3 h3 => ok_region rfl (q_mo _ rfl (q_mv _ rfl (q_appE el123 rfl rfl rfl (q_ao _ rfl (run_nil (h3 _ ?_))))))
    obtain ⟨g1, g2, g3⟩ := gd_flatL (rs := ([] : List Sample).map eSample) (fun r hr => by obtain ⟨y, _, rfl⟩ := List.mem_map.1 hr; rfl)
    refine ok_treed (k := 3) (n := 2) (T := 122) (rs := ([] : List Sample).map eSample) (ss := ([] : List Sample).map eSample) rfl rfl g1 g2 (fun r hr b hb => (g3 r hr b hb).elim) (fun Z v hZ => ?_)
    exact ok_ret ⟨_, ⟨_, _, rfl, rfl, rfl⟩, .tr Z 2 _ v, fun b hb => (hZ b (zn_tr hb)).elim id fun h => h.elim⟩
  · refine ok_seq fun K3 h3 => ok_region rfl (q_mo _ rfl (q_mv _ rfl (q_app _ el123 ze122 rfl by122 rfl rfl rfl rfl rfl (by simp) (by intro s hs; obtain ⟨y, _, rfl⟩ := List.mem_map.1 hs; exact .inl ⟨_, rfl⟩) (by simp only [List.length_map, List.length_cons, List.length_nil] at hx ⊢; unfold maxLen; omega) (by simp only [List.length_map, List.length_cons, List.length_nil] at hx ⊢; omega) (q_ao _ rfl (run_nil (h3 _ ?_))))))
    obtain ⟨g1, g2, g3⟩ := gd_flatL (rs := (u :: x).map eSample) (fun r hr => by obtain ⟨y, _, rfl⟩ := List.mem_map.1 hr; rfl)
    refine ok_treed (k := 6) (n := 2) (T := 122) (rs := (u :: x).map eSample) (ss := (u :: x).map eSample) rfl rfl g1 g2 (fun r hr b hb => (g3 r hr b hb).elim) (fun Z v hZ => ?_)
    exact ok_ret ⟨_, ⟨_, _, rfl, rfl, rfl⟩, .tr Z 2 _ v, fun b hb => (hZ b (zn_tr hb)).elim id fun h => h.elim⟩
theorem f133_o (x : List Series) (hx : x.length ≤ 1048576 ∧ ∀ y ∈ x, SSeries y) : PFnOT Tryz.prog 133 [eSeriesS x] 2 125 (x.map eSeries) := by
  refine fnot_ok (m := 24) (by omega) Tryz.func133 rfl rfl rfl (Nat.le_of_ble_eq_true rfl) rfl fun w0 O => ?_
  have hxl := hx.1
  refine ok_seq fun K1 h1 => ok_region rfl (q_as _ rfl (run_nil (h1 _ ?_)))
  refine ok_seq fun K2 h2 => ok_region rfl (q_an (n := 2) 125 (by decide) rfl rfl rfl (run_nil (h2 _ ?_)))
  refine ok_seq fun K3 h3 => ?_
  refine ok_seq fun K4 h4 => ok_region rfl (q_mv _ rfl (q_len eS63 rfl (q_mv _ rfl (run_nil (h4 _ ?_)))))
  rw [List.length_map]
  refine ok_block ?_
  refine ok_loop (fun (s : Nat × List SV) => ⟨[(3, .own 3), (6, .sv (eSeriesS x)), (7, .sv (int x.length)), (8, .sv (int s.1))], [(3, .row 2 125 s.2)]⟩) (fun s => Cps w0 s.2 ((x.take s.1).map eSeries)) (fun s => x.length - s.1) (0, []) (Cps.nil w0) (le_sub ⟨rfl, rfl, rfl, rfl, trivial⟩ ⟨rfl, trivial⟩) (fun s J => ?_)
  obtain ⟨k, rs⟩ := s
  simp only at J
  have hrl : rs.length ≤ k := by
    rw [J.len, List.length_map, List.length_take]; omega
  refine ok_seq fun K5 h5 => ok_region rfl (q_bin _ _ _ rfl rfl rfl (run_nil (h5 _ ?_)))
  refine ok_seq fun K6 h6 => ?_
  refine ok_cond rfl (fun c7 => ?_) (fun c7 => ?_)
  · refine ok_skip (h6 _ ?_)
    have hk : k < x.length := by simpa using c7
    obtain ⟨u, hu⟩ := sget hk
    have nu := hx.2 u (smem hu)
    have hd : (x.take (k + 1)).map eSeries = (x.take k).map eSeries ++ [eSeries u] := by rw [List.take_add_one, hu, Option.toList_some, List.map_append]; rfl
    refine ok_seq fun K8 h8 => ?_
    refine ok_block ?_
    refine ok_seq fun K9 h9 => ok_region rfl (q_ia el63 rfl rfl (by omega) (mget (f := eSeries) hu) (q_lds _ ag125 rfl sz125 (q_alloc _ ze125 rfl rfl rfl rfl (q_sts _ rfl rfl rfl sz125 (Nat.le_of_ble_eq_true rfl) rfl (run_nil (h9 _ ?_))))))
    refine ok_last fun K10 h10 => ok_region_d [0, 0, 1, 3, 0, 1, 3, 2, 3, 2, 0] #[[], [], [1], [1, 2], [], [4], [1, 2, 3, 4, 5], [1, 2, 3, 4, 5, 6], [1, 2, 3, 4, 5, 6, 7], [0, 1, 2, 3, 4, 5, 6, 7, 8], [0, 1, 2, 3, 4, 5, 6, 7, 8, 9]] [0, 1, 2, 4, 5, 3, 6, 7, 8, 9, 10] (by kernel_rfl) (by kernel_rfl) rfl rfl (
      q_mo _ rfl (q_fap fd125_0 rfl (by decide) (q_ldb (.sv (eLabelS u.labels)) ag78 rfl rfl rfl (q_fap fd125_1 rfl (by decide) (q_ldb (.sv (eSampleS u.samples)) ag123 rfl rfl rfl (q_callr (f166_t u.labels nu.1.1) cl166 rfl (fun r0 hr0 hz0 ha0 => ?_)))))))
    obtain ⟨Z0, v0, rfl⟩ := gd_sl_inv hr0
    refine q_callr (f167_t u.samples nu.2) cl167 rfl (fun r1 hr1 hz1 ha1 => ?_)
    obtain ⟨Z1, v1, rfl⟩ := gd_sl_inv hr1
    have d01 : ∀ b, Z0 b → ¬ Z1 b := fun b h0 h1 => ha1.1 15 _ b rfl (.tr Z0 _ v0 h0) (.tr Z1 _ v1 h1)
    have hn : ∀ b, Zn b (.agg [.tr Z0 (eLabelS u.labels) v0, .tr Z1 (eSampleS u.samples) v1]) → w0.heap.size ≤ b := fun b hb => by
      simp only [znA_cons, znI_raw, znI_tr, znA_nil, or_false, false_or] at hb
      rcases hb with h | h
      · exact hz0 b (.tr Z0 _ v0 h)
      · exact hz1 b (.tr Z1 _ v1 h)
    have hfresh := J.snoc (gc_Series u d01) (fun y hy b hb hb' => by
      simp only [znA_cons, znI_raw, znI_tr, znA_nil, or_false, false_or] at hb'
      rcases hb' with h | h
      · exact ha0.2 3 2 125 _ y b rfl hy hb (.tr Z0 _ v0 h)
      · exact ha1.2 3 2 125 _ y b rfl hy hb (.tr Z1 _ v1 h)) hn
    rw [← hd] at hfresh
    refine (q_bld _ (bl125 u) rfl rfl rfl (q_lit1 _ _ el63 ze125 (by decide) (by decide) rfl (.inl ⟨_, rfl⟩) rfl (
      q_app _ el63 ze125 rfl by125 rfl rfl rfl rfl rfl (by simp) (by intro s hs; simp at hs; subst hs; exact .inl ⟨_, rfl⟩) (by show rs.length + 1 ≤ maxLen; unfold maxLen; omega) (by show (rs.length + 1) * 48 ≤ _; omega) (q_ao _ rfl (run_nil (h10 _ (h8 _ ?_)))))))
    refine ok_last fun K11 h11 => ok_region rfl (
      q_add rfl rfl (by omega) (q_mv _ rfl (run_nil (h11 _ ⟨(k + 1, _), by simp only; omega, hfresh, le_rek 3 21 ⟨rfl, rfl, rfl, rfl, trivial⟩ ⟨rfl, trivial⟩ rfl rfl rfl rfl ⟨rfl, trivial⟩⟩))))
  · rw [List.take_of_length_le (by have : ¬ ((k : Int) < x.length) := by simpa using c7
                                   omega)] at J
    refine ok_exit (h3 _ ?_)
    refine ok_seq fun K12 h12 => ok_region rfl (q_mo _ rfl (q_ao _ rfl (run_nil (h12 _ ?_))))
    exact ok_ret ⟨3, rs, rfl, rfl, J⟩
theorem f124_o (x : List Series) (hx : x.length ≤ 1048576 ∧ ∀ y ∈ x, SSeries y) : PFnOT Tryz.prog 124 [eSeriesS x] 2 125 (x.map eSeries) := by
  refine fnot_ok (m := 24) (by omega) Tryz.func124 rfl rfl rfl (Nat.le_of_ble_eq_true rfl) rfl fun w0 O => ?_
  have hxl := hx.1
  refine ok_seq fun K1 h1 => ok_region rfl (q_as _ rfl (run_nil (h1 _ ?_)))
  refine ok_seq fun K2 h2 => ok_region rfl (q_an (n := 2) 125 (by decide) rfl rfl rfl (run_nil (h2 _ ?_)))
  refine ok_seq fun K3 h3 => ?_
  refine ok_seq fun K4 h4 => ok_region rfl (q_mv _ rfl (q_len eS63 rfl (q_mv _ rfl (run_nil (h4 _ ?_)))))
  rw [List.length_map]
  refine ok_block ?_
  refine ok_loop (fun (s : Nat × List SV) => ⟨[(3, .own 3), (6, .sv (eSeriesS x)), (7, .sv (int x.length)), (8, .sv (int s.1))], [(3, .row 2 125 s.2)]⟩) (fun s => Cps w0 s.2 ((x.take s.1).map eSeries)) (fun s => x.length - s.1) (0, []) (Cps.nil w0) (le_sub ⟨rfl, rfl, rfl, rfl, trivial⟩ ⟨rfl, trivial⟩) (fun s J => ?_)
  obtain ⟨k, rs⟩ := s
  simp only at J
  have hrl : rs.length ≤ k := by
    rw [J.len, List.length_map, List.length_take]; omega
  refine ok_seq fun K5 h5 => ok_region rfl (q_bin _ _ _ rfl rfl rfl (run_nil (h5 _ ?_)))
  refine ok_seq fun K6 h6 => ?_
  refine ok_cond rfl (fun c7 => ?_) (fun c7 => ?_)
  · refine ok_skip (h6 _ ?_)
    have hk : k < x.length := by simpa using c7
    obtain ⟨u, hu⟩ := sget hk
    have nu := hx.2 u (smem hu)
    have hd : (x.take (k + 1)).map eSeries = (x.take k).map eSeries ++ [eSeries u] := by rw [List.take_add_one, hu, Option.toList_some, List.map_append]; rfl
    refine ok_seq fun K8 h8 => ?_
    refine ok_block ?_
    refine ok_seq fun K9 h9 => ok_region rfl (q_ia el63 rfl rfl (by omega) (mget (f := eSeries) hu) (q_lds _ ag125 rfl sz125 (q_alloc _ ze125 rfl rfl rfl rfl (q_sts _ rfl rfl rfl sz125 (Nat.le_of_ble_eq_true rfl) rfl (run_nil (h9 _ ?_))))))
    refine ok_last fun K10 h10 => ok_region_d [0, 0, 1, 3, 0, 1, 3, 2, 3, 2, 0] #[[], [], [1], [1, 2], [], [4], [1, 2, 3, 4, 5], [1, 2, 3, 4, 5, 6], [1, 2, 3, 4, 5, 6, 7], [0, 1, 2, 3, 4, 5, 6, 7, 8], [0, 1, 2, 3, 4, 5, 6, 7, 8, 9]] [0, 1, 2, 4, 5, 3, 6, 7, 8, 9, 10] (by kernel_rfl) (by kernel_rfl) rfl rfl (
      q_mo _ rfl (q_fap fd125_0 rfl (by decide) (q_ldb (.sv (eLabelS u.labels)) ag78 rfl rfl rfl (q_fap fd125_1 rfl (by decide) (q_ldb (.sv (eSampleS u.samples)) ag123 rfl rfl rfl (q_callr (f153_t u.labels nu.1.1) cl153 rfl (fun r0 hr0 hz0 ha0 => ?_)))))))
    obtain ⟨Z0, v0, rfl⟩ := gd_sl_inv hr0
    refine q_callr (f193_t u.samples nu.2) cl193 rfl (fun r1 hr1 hz1 ha1 => ?_)
    obtain ⟨Z1, v1, rfl⟩ := gd_sl_inv hr1
    have d01 : ∀ b, Z0 b → ¬ Z1 b := fun b h0 h1 => ha1.1 15 _ b rfl (.tr Z0 _ v0 h0) (.tr Z1 _ v1 h1)
    have hn : ∀ b, Zn b (.agg [.tr Z0 (eLabelS u.labels) v0, .tr Z1 (eSampleS u.samples) v1]) → w0.heap.size ≤ b := fun b hb => by
      simp only [znA_cons, znI_raw, znI_tr, znA_nil, or_false, false_or] at hb
      rcases hb with h | h
      · exact hz0 b (.tr Z0 _ v0 h)
      · exact hz1 b (.tr Z1 _ v1 h)
    have hfresh := J.snoc (gc_Series u d01) (fun y hy b hb hb' => by
      simp only [znA_cons, znI_raw, znI_tr, znA_nil, or_false, false_or] at hb'
      rcases hb' with h | h
      · exact ha0.2 3 2 125 _ y b rfl hy hb (.tr Z0 _ v0 h)
      · exact ha1.2 3 2 125 _ y b rfl hy hb (.tr Z1 _ v1 h)) hn
    rw [← hd] at hfresh
    refine (q_bld _ (bl125 u) rfl rfl rfl (q_lit1 _ _ el63 ze125 (by decide) (by decide) rfl (.inl ⟨_, rfl⟩) rfl (
      q_app _ el63 ze125 rfl by125 rfl rfl rfl rfl rfl (by simp) (by intro s hs; simp at hs; subst hs; exact .inl ⟨_, rfl⟩) (by show rs.length + 1 ≤ maxLen; unfold maxLen; omega) (by show (rs.length + 1) * 48 ≤ _; omega) (q_ao _ rfl (run_nil (h10 _ (h8 _ ?_)))))))
    refine ok_last fun K11 h11 => ok_region rfl (
      q_add rfl rfl (by omega) (q_mv _ rfl (run_nil (h11 _ ⟨(k + 1, _), by simp only; omega, hfresh, le_rek 3 21 ⟨rfl, rfl, rfl, rfl, trivial⟩ ⟨rfl, trivial⟩ rfl rfl rfl rfl ⟨rfl, trivial⟩⟩))))
  · rw [List.take_of_length_le (by have : ¬ ((k : Int) < x.length) := by simpa using c7
                                   omega)] at J
    refine ok_exit (h3 _ ?_)
    refine ok_seq fun K12 h12 => ok_region rfl (q_mo _ rfl (q_ao _ rfl (run_nil (h12 _ ?_))))
    exact ok_ret ⟨3, rs, rfl, rfl, J⟩
section
variable {Γ : Ctx} {ops : Array Oper} {l : List (Oper × Nat)} {t : List (Nat × LV)} {h : List (Nat × Ent)} {K : St → Prop} {c d ty : Nat} {ps : String} {af : Array Edge} {x y : Operand}
theorem q_tl {α : Type} {f : α → SV} {a : α} {r : List α} {S e n : Nat} (he : elOf Γ.P S = some (e, n)) (hx : St.ev ⟨t, h⟩ x = .sv (.sl n ((a :: r).map f))) (hk : RunL Γ ops l ⟨(d, .sv (.sl n (r.map f))) :: t, h⟩ K) :
    RunL Γ ops ((⟨some d, .slice S x (some (.const (.int .i64 1))) none none, ty, ps, af, none⟩, c) :: l) ⟨t, h⟩ K := by
  refine q_sl 1 (((a :: r).map f).length : Int) he hx (.inr ⟨_, _, rfl, rfl⟩) (.inl ⟨rfl, rfl⟩) (by omega) (by rw [List.length_map, List.length_cons]; omega) (Int.le_refl _) ?_
  have e1 : (((a :: r).map f).drop (1 : Int).toNat).take ((((a :: r).map f).length : Int) - 1).toNat = r.map f := by
    rw [show (1 : Int).toNat = 1 from rfl, List.map_cons, List.drop_succ_cons, List.drop_zero, List.take_of_length_le (by simp)]
  rw [e1]; exact hk
end
theorem fst0 (l : List Sample) : ∃ x, 0 < l.length → l[0]? = some x := by
  cases l with
  | nil => exact ⟨⟨0, 0⟩, fun h => by simp at h⟩
  | cons x l => exact ⟨x, fun _ => rfl⟩
theorem zget {l : List Sample} {x : Sample} (h : 0 < l.length → l[0]? = some x) (h0 : 0 < l.length) : (l.map eSample)[(0 : Int).toNat]? = some (eSample x) := by
  rw [show (0 : Int).toNat = 0 from rfl]; exact mget (h h0)
end Go.Ring
