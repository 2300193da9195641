/- Parts of the proof, laid together: J1 J2 B6 B7 G5 So. No condition. -/
import Derived.Test.YtanilephcohjkaaGreatSg8
import Derived.Test.YtanilephcohjkaaGreatSg5
import Derived.Shelf.SlGeneric
import Derived.Shelf.Small.Wraps
import Derived.Shelf.SlSortCmp.WholeK
import Derived.Test.YtanilephcohjkaaGreatProg
import Derived.Test.YtanilephcohjkaaGreatEg2
import Derived.WalkKit
import Derived.Tactics
/- Series joined, of two samples at one time the greater: the plain law. No condition. -/
set_option maxRecDepth 100000
set_option linter.unusedVariables false
set_option linter.unusedSimpArgs false
namespace Go.Ring
open Go Go.RowKit Go.Eager Go.Abs Go.Proofs
/-- Samples at rising times. -/
def SrtS (l : List Sample) : Prop := l.Pairwise fun x y => x.time < y.time
/-- The value at a time. -/
def vat (t : Int) : List Sample → Option Int
  | [] => none
  | s :: l => if s.time = t then some s.value else vat t l
theorem vat_gt {t : Int} : ∀ {l : List Sample}, (∀ x ∈ l, t < x.time) → vat t l = none
  | [], _ => rfl
  | s :: l, h => by
    unfold vat
    have := h s (List.mem_cons_self ..)
    rw [if_neg (by omega)]
    exact vat_gt fun x hx => h x (List.mem_cons_of_mem _ hx)
theorem vat_get {t : Int} : ∀ {l : List Sample} {v : Int}, vat t l = some v → ∃ x ∈ l, x.time = t ∧ x.value = v
  | [], v, h => by simp [vat] at h
  | s :: l, v, h => by
    unfold vat at h
    split at h
    · rename_i e; cases h; exact ⟨s, List.mem_cons_self .., e, rfl⟩
    · obtain ⟨x, hx, h1, h2⟩ := vat_get h; exact ⟨x, List.mem_cons_of_mem _ hx, h1, h2⟩
theorem srtS_ext : ∀ {l m : List Sample}, SrtS l → SrtS m → (∀ t, vat t l = vat t m) → l = m
  | [], [], _, _, _ => rfl
  | [], y :: m, _, _, h => by have := h y.time; simp [vat] at this
  | x :: l, [], _, _, h => by have := h x.time; simp [vat] at this
  | x :: l, y :: m, h1, h2, h => by
    obtain ⟨a1, a2⟩ := List.pairwise_cons.1 h1
    obtain ⟨b1, b2⟩ := List.pairwise_cons.1 h2
    have ht : x.time = y.time := by
      rcases Int.lt_trichotomy x.time y.time with c | c | c
      · exfalso
        have e := h x.time
        rw [vat_gt (l := y :: m) (fun z hz => by
          rcases List.mem_cons.1 hz with rfl | hz
          · exact c
          · have := b1 z hz; omega)] at e
        simp [vat] at e
      · exact c
      · exfalso
        have e := h y.time
        rw [vat_gt (l := x :: l) (fun z hz => by
          rcases List.mem_cons.1 hz with rfl | hz
          · exact c
          · have := a1 z hz; omega)] at e
        simp [vat] at e
    have hv : x.value = y.value := by
      have e := h x.time
      unfold vat at e
      rw [if_pos rfl, if_pos ht.symm] at e
      exact Option.some.inj e
    have hxy : x = y := by cases x; cases y; simp only at ht hv; subst ht hv; rfl
    subst hxy
    congr 1
    refine srtS_ext a2 b2 fun t => ?_
    by_cases c : t = x.time
    · subst c; rw [vat_gt a1, vat_gt b1]
    · have e := h t
      unfold vat at e
      rw [if_neg (fun c' => c c'.symm), if_neg (fun c' => c c'.symm)] at e
      exact e
theorem mg_mem {z : Sample} {a b : List Sample} (h : z ∈ mg a b) : z ∈ a ∨ z ∈ b := by
  induction a, b using mg.induct with
  | case1 b => rw [mg] at h; exact .inr h
  | case2 x a => rw [mg_nil] at h; exact .inl h
  | case3 x a y b hc ih =>
    rw [mg_lt hc] at h
    rcases List.mem_cons.1 h with rfl | h
    · exact .inl (List.mem_cons_self ..)
    · exact (ih h).imp (List.mem_cons_of_mem _) id
  | case4 x a y b h1 h2 ih =>
    rw [mg_eq h2] at h
    rcases List.mem_cons.1 h with rfl | h
    · exact .inl (List.mem_cons_self ..)
    · exact (ih h).imp (List.mem_cons_of_mem _) (List.mem_cons_of_mem _)
  | case5 x a y b h1 h2 ih =>
    rw [mg_gt (by omega)] at h
    rcases List.mem_cons.1 h with rfl | h
    · exact .inr (List.mem_cons_self ..)
    · exact (ih h).imp id (List.mem_cons_of_mem _)
theorem mg_srt {a b : List Sample} (ha : SrtS a) (hb : SrtS b) : SrtS (mg a b) := by
  unfold SrtS at *
  induction a, b using mg.induct with
  | case1 b => rw [mg]; exact hb
  | case2 x a => rw [mg_nil]; exact ha
  | case3 x a y b hc ih =>
    obtain ⟨a1, a2⟩ := List.pairwise_cons.1 ha
    obtain ⟨b1, b2⟩ := List.pairwise_cons.1 hb
    rw [mg_lt hc, List.pairwise_cons]
    refine ⟨fun z hz => ?_, ih a2 hb⟩
    rcases mg_mem hz with hz | hz
    · exact a1 z hz
    · rcases List.mem_cons.1 hz with rfl | hz
      · exact hc
      · have := b1 z hz; omega
  | case4 x a y b h1 h2 ih =>
    obtain ⟨a1, a2⟩ := List.pairwise_cons.1 ha
    obtain ⟨b1, b2⟩ := List.pairwise_cons.1 hb
    rw [mg_eq h2, List.pairwise_cons]
    refine ⟨fun z hz => ?_, ih a2 b2⟩
    rcases mg_mem hz with hz | hz
    · exact a1 z hz
    · have := b1 z hz; omega
  | case5 x a y b h1 h2 ih =>
    obtain ⟨a1, a2⟩ := List.pairwise_cons.1 ha
    obtain ⟨b1, b2⟩ := List.pairwise_cons.1 hb
    rw [mg_gt (by omega), List.pairwise_cons]
    refine ⟨fun z hz => ?_, ih ha b2⟩
    rcases mg_mem hz with hz | hz
    · rcases List.mem_cons.1 hz with rfl | hz
      · omega
      · have := a1 z hz; omega
    · exact b1 z hz
theorem vat_mg {t : Int} {a b : List Sample} (ha : SrtS a) (hb : SrtS b) : vat t (mg a b) = (vat t a).or (vat t b) := by
  unfold SrtS at *
  induction a, b using mg.induct with
  | case1 b => rw [mg]; simp [vat]
  | case2 x a => rw [mg_nil]; simp [vat]
  | case3 x a y b hc ih =>
    obtain ⟨a1, a2⟩ := List.pairwise_cons.1 ha
    rw [mg_lt hc]
    simp only [vat]
    split
    · simp
    · have := ih a2 hb
      simp only [vat] at this
      exact this
  | case4 x a y b h1 h2 ih =>
    obtain ⟨a1, a2⟩ := List.pairwise_cons.1 ha
    obtain ⟨b1, b2⟩ := List.pairwise_cons.1 hb
    rw [mg_eq h2]
    simp only [vat]
    split
    · simp
    · rw [if_neg (by omega)]
      exact ih a2 b2
  | case5 x a y b h1 h2 ih =>
    obtain ⟨a1, a2⟩ := List.pairwise_cons.1 ha
    obtain ⟨b1, b2⟩ := List.pairwise_cons.1 hb
    rw [mg_gt (by omega)]
    by_cases hy : y.time = t
    · rw [vat_gt (l := x :: a) (fun z hz => by
        rcases List.mem_cons.1 hz with rfl | hz
        · omega
        · have := a1 z hz; omega)]
      simp [vat, hy]
    · rw [show vat t (y :: mg (x :: a) b) = vat t (mg (x :: a) b) by rw [vat, if_neg hy], show vat t (y :: b) = vat t b by rw [vat, if_neg hy]]
      exact ih ha b2
/-- A sample, raised to what another row has at its time. -/
def gB (b : List Sample) (x : Sample) : Sample := match vat x.time b with | some v => ⟨x.time, if x.value < v then v else x.value⟩ | none => x
theorem gB_time (b : List Sample) (x : Sample) : (gB b x).time = x.time := by unfold gB; split <;> rfl
/-- Two rows of samples joined: of two at one time the greater. -/
def grM (a b : List Sample) : List Sample := (mg a b).map (gB b)
theorem grM_len (a b : List Sample) : (grM a b).length ≤ a.length + b.length := by unfold grM; rw [List.length_map]; exact mg_len a b
theorem map_srt {l b : List Sample} (h : SrtS l) : SrtS (l.map (gB b)) := by
  unfold SrtS at *
  rw [List.pairwise_map]
  exact h.imp fun h => by rw [gB_time, gB_time]; exact h
theorem grM_srt {a b : List Sample} (ha : SrtS a) (hb : SrtS b) : SrtS (grM a b) := map_srt (mg_srt ha hb)
theorem vat_map {t : Int} (b : List Sample) : ∀ l : List Sample, vat t (l.map (gB b)) = (vat t l).map fun v => match vat t b with | some w => if v < w then w else v | none => v
  | [] => rfl
  | x :: l => by
    simp only [List.map_cons, vat, gB_time]
    split
    · rename_i e
      subst e
      unfold gB
      cases vat x.time b <;> rfl
    · exact vat_map b l
/-- Of two values the greater, if there are two. -/
def omx : Option Int → Option Int → Option Int
  | none, y => y
  | some v, none => some v
  | some v, some w => some (if v < w then w else v)
theorem vat_grM {t : Int} {a b : List Sample} (ha : SrtS a) (hb : SrtS b) : vat t (grM a b) = omx (vat t a) (vat t b) := by
  unfold grM
  rw [vat_map, vat_mg ha hb]
  cases vat t a <;> cases vat t b <;> simp [omx]
theorem omx_assoc (x y z : Option Int) : omx (omx x y) z = omx x (omx y z) := by
  cases x <;> cases y <;> cases z <;> simp only [omx] <;> (congr 1; (repeat' split) <;> omega)
theorem grM_assoc {a b c : List Sample} (ha : SrtS a) (hb : SrtS b) (hc : SrtS c) : grM (grM a b) c = grM a (grM b c) :=
  srtS_ext (grM_srt (grM_srt ha hb) hc) (grM_srt ha (grM_srt hb hc)) fun t => by
    rw [vat_grM (grM_srt ha hb) hc, vat_grM ha hb, vat_grM ha (grM_srt hb hc), vat_grM hb hc, omx_assoc]
theorem grM_nil {b : List Sample} (hb : SrtS b) : grM [] b = b :=
  srtS_ext (grM_srt (by unfold SrtS; exact List.Pairwise.nil) hb) hb fun t => by rw [vat_grM (by unfold SrtS; exact List.Pairwise.nil) hb]; rfl
/-- One series joined to a row of series. -/
def insJ : List Series → Series → List Series
  | [], u => [u]
  | x :: l, u => if cmpLs x.labels u.labels < 0 then x :: insJ l u else if cmpLs x.labels u.labels = 0 then ⟨x.labels, grM x.samples u.samples⟩ :: l else u :: x :: l
theorem insJ_fnd : ∀ {acc : List Series} {u x : Series}, fnd u.labels acc = true → acc[lowI u.labels acc]? = some x → insJ acc u = acc.set (lowI u.labels acc) ⟨x.labels, grM x.samples u.samples⟩
  | [], u, x, _, hx => by simp at hx
  | y :: l, u, x, h, hx => by
    unfold fnd at h
    unfold insJ
    by_cases c : cmpLs y.labels u.labels < 0
    · have e : lowI u.labels (y :: l) = lowI u.labels l + 1 := by rw [lowI, if_pos c]
      rw [if_pos c, e, List.set_cons_succ]
      rw [e, List.getElem?_cons_succ] at h hx
      rw [insJ_fnd (acc := l) (u := u) (x := x) (by unfold fnd; exact h) hx]
    · have e : lowI u.labels (y :: l) = 0 := by rw [lowI, if_neg c]
      rw [e] at h hx
      simp at h hx
      subst hx
      rw [if_neg c, if_pos h, e, List.set_cons_zero]
theorem insJ_new : ∀ {acc : List Series} {u : Series}, fnd u.labels acc = false → insJ acc u = insAt acc (lowI u.labels acc) u
  | [], u, _ => rfl
  | y :: l, u, h => by
    unfold fnd at h
    unfold insJ
    by_cases c : cmpLs y.labels u.labels < 0
    · have e : lowI u.labels (y :: l) = lowI u.labels l + 1 := by rw [lowI, if_pos c]
      rw [e, List.getElem?_cons_succ] at h
      rw [if_pos c, e, insJ_new (acc := l) (u := u) (by unfold fnd; exact h)]
      rfl
    · have e : lowI u.labels (y :: l) = 0 := by rw [lowI, if_neg c]
      rw [e] at h
      simp at h
      rw [if_neg c, if_neg h, e]
      rfl
/-- Series joined. -/
def jn (a b : List Series) : List Series := b.foldl insJ a
theorem jn_step {a b : List Series} {k : Nat} {u : Series} (hu : b[k]? = some u) : jn a (b.take (k + 1)) = insJ (jn a (b.take k)) u := by
  unfold jn
  rw [List.take_add_one, hu, Option.toList_some, List.foldl_append]
  rfl
/-- Ordered by labels, each ahead of all behind. -/
def SrtL (l : List Series) : Prop := l.Pairwise fun x y => cmpLs x.labels y.labels < 0
theorem srtL_iff {l : List Series} : SrtL l ↔ Srt l := by
  unfold SrtL
  rw [List.pairwise_iff_getElem]
  constructor
  · intro h i j x y hij hx hy
    obtain ⟨h1, rfl⟩ := List.getElem?_eq_some_iff.1 hx
    obtain ⟨h2, rfl⟩ := List.getElem?_eq_some_iff.1 hy
    exact h i j h1 h2 hij
  · intro h i j hi hj hij
    exact h i j _ _ hij (List.getElem?_eq_getElem hi) (List.getElem?_eq_getElem hj)
/-- All samples at rising times. -/
def SmS (l : List Series) : Prop := ∀ y ∈ l, SrtS y.samples
theorem insJ_mem : ∀ {acc : List Series} {u s : Series}, s ∈ insJ acc u → s ∈ acc ∨ s = u ∨ ∃ x ∈ acc, s = ⟨x.labels, grM x.samples u.samples⟩ ∧ x.labels = u.labels
  | [], u, s, h => by simp [insJ] at h; exact .inr (.inl h)
  | x :: l, u, s, h => by
    unfold insJ at h
    split at h
    · rcases List.mem_cons.1 h with rfl | h
      · exact .inl (List.mem_cons_self ..)
      · rcases insJ_mem h with h | h | ⟨y, hy, h⟩
        · exact .inl (List.mem_cons_of_mem _ h)
        · exact .inr (.inl h)
        · exact .inr (.inr ⟨y, List.mem_cons_of_mem _ hy, h⟩)
    · split at h
      · rename_i c
        rcases List.mem_cons.1 h with rfl | h
        · exact .inr (.inr ⟨x, List.mem_cons_self .., rfl, (cmpLs_zero _ _).1 c⟩)
        · exact .inl (List.mem_cons_of_mem _ h)
      · rcases List.mem_cons.1 h with rfl | h
        · exact .inr (.inl rfl)
        · exact .inl h
theorem insJ_srt : ∀ {acc : List Series} {u : Series}, SrtL acc → SrtL (insJ acc u)
  | [], u, _ => by simp [insJ, SrtL]
  | x :: l, u, h => by
    obtain ⟨h1, h2⟩ := List.pairwise_cons.1 h
    unfold insJ
    split
    · rename_i c
      refine List.pairwise_cons.2 ⟨fun s hs => ?_, insJ_srt h2⟩
      rcases insJ_mem hs with hs | rfl | ⟨y, hy, rfl, _⟩
      · exact h1 s hs
      · exact c
      · exact h1 y hy
    · split
      · exact List.pairwise_cons.2 ⟨fun s hs => h1 s hs, h2⟩
      · rename_i c1 c2
        have c3 : cmpLs u.labels x.labels < 0 := by have := cmpLs_neg x.labels u.labels; omega
        refine List.pairwise_cons.2 ⟨fun s hs => ?_, h⟩
        rcases List.mem_cons.1 hs with rfl | hs
        · exact c3
        · exact cmpLs_trans _ _ _ c3 (h1 s hs)
theorem insJ_sm {acc : List Series} {u : Series} (h : SmS acc) (hu : SrtS u.samples) : SmS (insJ acc u) := fun s hs => by
  rcases insJ_mem hs with hs | rfl | ⟨y, hy, rfl, _⟩
  · exact h s hs
  · exact hu
  · exact grM_srt (h y hy) hu
theorem insJ_lb {acc : List Series} {u : Series} (h : LbOk acc) (hu : u.labels.length ≤ 1048576 ∧ ∀ z ∈ u.labels, SLabel z) : LbOk (insJ acc u) := fun s hs => by
  rcases insJ_mem hs with hs | rfl | ⟨y, hy, rfl, _⟩
  · exact h s hs
  · exact hu
  · exact h y hy
theorem insJ_wt : ∀ (acc : List Series) (u : Series), wt (insJ acc u) ≤ wt acc + (u.samples.length + 1)
  | [], u => by simp [insJ, wt]
  | x :: l, u => by
    have ih := insJ_wt l u
    have hg := grM_len x.samples u.samples
    unfold insJ
    split
    · simp only [wt]; omega
    · split <;> simp only [wt] <;> omega
theorem jn_inv (b : List Series) : ∀ (a : List Series), SrtL a → SmS a → LbOk a → SmS b → LbOk b → SrtL (jn a b) ∧ SmS (jn a b) ∧ LbOk (jn a b) ∧ wt (jn a b) ≤ wt a + wt b := by
  induction b with
  | nil => exact fun a h1 h2 h3 _ _ => ⟨h1, h2, h3, Nat.le_refl _⟩
  | cons u b ih =>
    intro a h1 h2 h3 h4 h5
    obtain ⟨k1, k2, k3, k4⟩ := ih (insJ a u) (insJ_srt h1) (insJ_sm h2 (h4 u (List.mem_cons_self ..))) (insJ_lb h3 (h5 u (List.mem_cons_self ..))) (fun y hy => h4 y (List.mem_cons_of_mem _ hy)) (fun y hy => h5 y (List.mem_cons_of_mem _ hy))
    have e : jn a (u :: b) = jn (insJ a u) b := rfl
    rw [e]
    refine ⟨k1, k2, k3, ?_⟩
    have := insJ_wt a u
    simp only [wt]
    omega
open Classical in
/-- The samples under labels. -/
noncomputable def lk (t : List Label) : List Series → Option (List Sample)
  | [] => none
  | s :: l => if s.labels = t then some s.samples else lk t l
theorem lk_none {t : List Label} : ∀ {l : List Series}, (∀ s ∈ l, s.labels ≠ t) → lk t l = none
  | [], _ => rfl
  | s :: l, h => by
    unfold lk
    rw [if_neg (h s (List.mem_cons_self ..))]
    exact lk_none fun x hx => h x (List.mem_cons_of_mem _ hx)
theorem lk_mem {t : List Label} : ∀ {l : List Series} {q : List Sample}, lk t l = some q → ∃ s ∈ l, s.labels = t ∧ s.samples = q
  | [], q, h => by simp [lk] at h
  | s :: l, q, h => by
    unfold lk at h
    split at h
    · rename_i e; cases h; exact ⟨s, List.mem_cons_self .., e, rfl⟩
    · obtain ⟨x, hx, h1, h2⟩ := lk_mem h; exact ⟨x, List.mem_cons_of_mem _ hx, h1, h2⟩
theorem cmpLs_self (t : List Label) : cmpLs t t = 0 := (cmpLs_zero t t).2 rfl
theorem lk_behind {x : Series} {l : List Series} (h : ∀ y ∈ l, cmpLs x.labels y.labels < 0) : lk x.labels l = none := lk_none fun s hs e => by
  have := h s hs
  rw [e, cmpLs_self] at this
  omega
theorem lk_ext : ∀ {l m : List Series}, SrtL l → SrtL m → (∀ t, lk t l = lk t m) → l = m
  | [], [], _, _, _ => rfl
  | [], y :: m, _, _, h => by have := h y.labels; simp [lk] at this
  | x :: l, [], _, _, h => by have := h x.labels; simp [lk] at this
  | x :: l, y :: m, h1, h2, h => by
    obtain ⟨a1, a2⟩ := List.pairwise_cons.1 h1
    obtain ⟨b1, b2⟩ := List.pairwise_cons.1 h2
    have ht : x.labels = y.labels := by
      rcases Int.lt_trichotomy (cmpLs x.labels y.labels) 0 with c | c | c
      · exfalso
        have e := h x.labels
        rw [lk_behind (l := y :: m) (fun z hz => by
          rcases List.mem_cons.1 hz with rfl | hz
          · exact c
          · exact cmpLs_trans _ _ _ c (b1 z hz))] at e
        simp [lk] at e
      · exact (cmpLs_zero _ _).1 c
      · exfalso
        have c' : cmpLs y.labels x.labels < 0 := by have := cmpLs_neg x.labels y.labels; omega
        have e := h y.labels
        rw [lk_behind (l := x :: l) (fun z hz => by
          rcases List.mem_cons.1 hz with rfl | hz
          · exact c'
          · exact cmpLs_trans _ _ _ c' (a1 z hz))] at e
        simp [lk] at e
    have hv : x.samples = y.samples := by
      have e := h x.labels
      unfold lk at e
      rw [if_pos rfl, if_pos ht.symm] at e
      exact Option.some.inj e
    have hxy : x = y := by cases x; cases y; simp only at ht hv; subst ht hv; rfl
    subst hxy
    congr 1
    refine lk_ext a2 b2 fun t => ?_
    by_cases c : x.labels = t
    · subst c; rw [lk_behind a1, lk_behind b1]
    · have e := h t
      unfold lk at e
      rw [if_neg c, if_neg c] at e
      exact e
/-- Two rows of samples joined, if there are two. -/
def op2 : Option (List Sample) → Option (List Sample) → Option (List Sample)
  | none, y => y
  | some p, none => some p
  | some p, some q => some (grM p q)
open Classical in
theorem lk_insJ {t : List Label} : ∀ {acc : List Series} {u : Series}, SrtL acc → lk t (insJ acc u) = if u.labels = t then op2 (lk t acc) (some u.samples) else lk t acc
  | [], u, _ => by simp [insJ, lk, op2]
  | x :: l, u, h => by
    obtain ⟨h1, h2⟩ := List.pairwise_cons.1 h
    unfold insJ
    split
    · rename_i c
      have hne : x.labels ≠ u.labels := fun e => by rw [e, cmpLs_self] at c; omega
      by_cases e : x.labels = t
      · have e2 : ¬ (u.labels = t) := fun e2 => hne (e.trans e2.symm)
        simp [lk, e, e2]
      · have ih := lk_insJ (t := t) (acc := l) (u := u) h2
        simp only [lk, if_neg e]
        exact ih
    · split
      · rename_i c1 c2
        have e0 := (cmpLs_zero _ _).1 c2
        by_cases e : x.labels = t
        · have e2 : u.labels = t := e0.symm.trans e
          simp [lk, e, e2, op2]
        · have e2 : ¬ (u.labels = t) := fun e2 => e (e0.trans e2)
          simp [lk, e, e2]
      · rename_i c1 c2
        have c3 : cmpLs u.labels x.labels < 0 := by have := cmpLs_neg x.labels u.labels; omega
        by_cases e2 : u.labels = t
        · subst e2
          rw [if_pos rfl, lk_behind (x := u) (l := x :: l) (fun z hz => by
            rcases List.mem_cons.1 hz with rfl | hz
            · exact c3
            · exact cmpLs_trans _ _ _ c3 (h1 z hz))]
          simp [lk, op2]
        · rw [if_neg e2]
          rw [show lk t (u :: x :: l) = lk t (x :: l) by rw [lk, if_neg e2]]
theorem lk_jn {t : List Label} : ∀ {b a : List Series}, SrtL a → SrtL b → lk t (jn a b) = op2 (lk t a) (lk t b)
  | [], a, _, _ => by
    show lk t a = op2 (lk t a) none
    cases lk t a <;> rfl
  | u :: b, a, ha, hb => by
    obtain ⟨h1, h2⟩ := List.pairwise_cons.1 hb
    have e : jn a (u :: b) = jn (insJ a u) b := rfl
    rw [e, lk_jn (insJ_srt ha) h2, lk_insJ ha]
    by_cases c : u.labels = t
    · subst c
      rw [if_pos rfl, lk_behind h1]
      rw [show lk u.labels (u :: b) = some u.samples by rw [lk, if_pos rfl]]
      cases lk u.labels a <;> rfl
    · rw [if_neg c]
      rw [show lk t (u :: b) = lk t b by rw [lk, if_neg c]]
theorem lk_srt {t : List Label} {l : List Series} {q : List Sample} (h : SmS l) (hq : lk t l = some q) : SrtS q := by
  obtain ⟨s, hs, _, rfl⟩ := lk_mem hq
  exact h s hs
theorem op2_assoc {x y z : Option (List Sample)} (hx : ∀ q, x = some q → SrtS q) (hy : ∀ q, y = some q → SrtS q) (hz : ∀ q, z = some q → SrtS q) : op2 (op2 x y) z = op2 x (op2 y z) := by
  cases x <;> cases y <;> cases z <;> simp only [op2]
  rw [grM_assoc (hx _ rfl) (hy _ rfl) (hz _ rfl)]
theorem jn_assoc {a b c : List Series} (ha : SrtL a) (hb : SrtL b) (hc : SrtL c) (sa : SmS a) (sb : SmS b) (sc : SmS c) (la : LbOk a) (lb : LbOk b) (lc : LbOk c) : jn (jn a b) c = jn a (jn b c) := by
  obtain ⟨h1, h2, _, _⟩ := jn_inv b a ha sa la sb lb
  obtain ⟨h3, h4, h5, _⟩ := jn_inv c b hb sb lb sc lc
  obtain ⟨k1, _, _, _⟩ := jn_inv c (jn a b) h1 h2 (jn_inv b a ha sa la sb lb).2.2.1 sc lc
  obtain ⟨k2, _, _, _⟩ := jn_inv (jn b c) a ha sa la h4 h5
  refine lk_ext k1 k2 fun t => ?_
  rw [lk_jn h1 hc, lk_jn ha hb, lk_jn ha h3, lk_jn hb hc]
  exact op2_assoc (fun q hq => lk_srt sa hq) (fun q hq => lk_srt sb hq) (fun q hq => lk_srt sc hq)
theorem srtL_filter {l : List Series} (h : SrtL l) (f : Series → Bool) : SrtL (l.filter f) := List.Pairwise.filter f h
theorem lk_filter {t : List Label} (f : List Label → Bool) : ∀ {l : List Series}, lk t (l.filter fun s => f s.labels) = if f t = true then lk t l else none
  | [] => by simp [lk]
  | s :: l => by
    have ih := lk_filter (t := t) f (l := l)
    rw [List.filter_cons]
    by_cases c : s.labels = t
    · subst c
      by_cases hf : f s.labels = true
      · simp [hf, lk]
      · rw [if_neg hf, ih, if_neg hf, if_neg hf]
    · by_cases hf : f s.labels = true
      · rw [if_pos hf]
        simp only [lk, if_neg c]
        exact ih
      · rw [if_neg hf, ih]
        simp only [lk, if_neg c]
theorem filter_jn {a b : List Series} (ha : SrtL a) (hb : SrtL b) (sa : SmS a) (sb : SmS b) (la : LbOk a) (lb : LbOk b) (f : List Label → Bool) : (jn a b).filter (fun s => f s.labels) = jn (a.filter fun s => f s.labels) (b.filter fun s => f s.labels) := by
  have hm : ∀ {l : List Series}, SmS l → SmS (l.filter fun s => f s.labels) := fun h y hy => h y (List.mem_filter.1 hy).1
  have hl : ∀ {l : List Series}, LbOk l → LbOk (l.filter fun s => f s.labels) := fun h y hy => h y (List.mem_filter.1 hy).1
  refine lk_ext (srtL_filter (jn_inv b a ha sa la sb lb).1 _) (jn_inv _ _ (srtL_filter ha _) (hm sa) (hl la) (hm sb) (hl lb)).1 fun t => ?_
  rw [lk_filter, lk_jn ha hb, lk_jn (srtL_filter ha _) (srtL_filter hb _), lk_filter, lk_filter]
  split <;> rfl
end Go.Ring

/- Good series, and one more joined: the plain law. No condition. -/
set_option maxRecDepth 100000
set_option linter.unusedVariables false
set_option linter.unusedSimpArgs false
namespace Go.Ring
open Go Go.RowKit Go.Eager Go.Abs Go.Proofs
theorem smp_iff {q : List Sample} : SamplesOk q ↔ q.length ≤ 2000 ∧ (∀ x ∈ q, TimeOk x.time) ∧ SrtS q := by
  unfold SamplesOk SampleAt
  constructor
  · rintro ⟨h1, h2⟩
    refine ⟨h1, fun x hx => ?_, ?_⟩
    · obtain ⟨i, hi⟩ := List.getElem?_of_mem hx
      exact (h2 i x hi).1
    · have key : ∀ (j i : Nat) (x y : Sample), i < j → q[i]? = some x → q[j]? = some y → x.time < y.time := by
        intro j
        induction j with
        | zero => intro i x y h; omega
        | succ j ih =>
          intro i x y hij hx hy
          obtain ⟨p, hp⟩ := sget (l := q) (i := j) (by have := slt hy; omega)
          have h3 := (h2 (j + 1) y hy).2 p (by omega) hp
          rcases Nat.lt_or_ge i j with h | h
          · have := ih i x p h hx hp; omega
          · obtain rfl : i = j := by omega
            rw [hx] at hp; cases hp; exact h3
      exact List.pairwise_iff_getElem.2 fun i j hi hj hij => key j i _ _ hij (List.getElem?_eq_getElem hi) (List.getElem?_eq_getElem hj)
  · rintro ⟨h1, h2, h3⟩
    refine ⟨h1, fun i x hx => ⟨h2 x (smem hx), fun p h0 hp => ?_⟩⟩
    have h4 := slt hx
    have h5 := slt hp
    have := List.pairwise_iff_getElem.1 h3 (i - 1) i h5 h4 (by omega)
    rw [(List.getElem?_eq_some_iff.1 hx).2, (List.getElem?_eq_some_iff.1 hp).2] at this
    exact this
/-- A series good in itself. -/
def OneS (x : Series) : Prop := LabelsOk x.labels ∧ hasNm x.labels = true ∧ SamplesOk x.samples ∧ x.samples.length ≠ 0
theorem ser_iff {l : List Series} : SeriesOk l ↔ l.length ≤ 200 ∧ (∀ x ∈ l, OneS x) ∧ SrtL l := by
  unfold SeriesOk SeriesAt
  constructor
  · rintro ⟨h1, h2⟩
    refine ⟨h1, fun x hx => ?_, srtL_iff.2 (srt_of fun i x hx => (h2 i x hx).2.2.2.2)⟩
    obtain ⟨i, hi⟩ := List.getElem?_of_mem hx
    obtain ⟨a, b, c, d, _⟩ := h2 i x hi
    exact ⟨a, b, c, d⟩
  · rintro ⟨h1, h2, h3⟩
    refine ⟨h1, fun i x hx => ?_⟩
    obtain ⟨a, b, c, d⟩ := h2 x (smem hx)
    exact ⟨a, b, c, d, fun p h0 hp => srtL_iff.1 h3 (i - 1) i p x (by omega) hp hx⟩
theorem ser_srt {l : List Series} (h : SeriesOk l) : SrtL l := (ser_iff.1 h).2.2
theorem ser_sm {l : List Series} (h : SeriesOk l) : SmS l := fun y hy => (smp_iff.1 ((ser_iff.1 h).2.1 y hy).2.2.1).2.2
theorem mg_ne {a b : List Sample} (h : b.length ≠ 0) : (mg a b).length ≠ 0 := by
  induction a, b using mg.induct with
  | case1 b => rw [mg]; exact h
  | case2 x a => rw [mg_nil]; simp
  | case3 x a y b hc ih => rw [mg_lt hc]; simp
  | case4 x a y b h1 h2 ih => rw [mg_eq h2]; simp
  | case5 x a y b h1 h2 ih => rw [mg_gt (by omega)]; simp
theorem insJ_len_fnd {l : List Series} {u x : Series} (h : fnd u.labels l = true) (hx : l[lowI u.labels l]? = some x) : (insJ l u).length = l.length := by rw [insJ_fnd h hx, List.length_set]
theorem insJ_len_new {l : List Series} {u : Series} (h : fnd u.labels l = false) : (insJ l u).length = l.length + 1 := by rw [insJ_new h]; exact insAt_len _ _ _ (lowI_le _ _)
/-- All of some clusters' rows, joined. -/
def jnAll (ls : List (List Series)) (a : List Series) : List Series := ls.foldl jn a
/-- A row of series whose rows are in order. -/
structure Nice (l : List Series) : Prop where
  s : SrtL l
  m : SmS l
  b : LbOk l
theorem Nice.jn {a b : List Series} (ha : Nice a) (hb : Nice b) : Nice (jn a b) := by
  obtain ⟨h1, h2, h3, _⟩ := jn_inv b a ha.s ha.m ha.b hb.m hb.b
  exact ⟨h1, h2, h3⟩
theorem Nice.filter {a : List Series} (ha : Nice a) (f : Series → Bool) : Nice (a.filter f) :=
  ⟨srtL_filter ha.s f, fun y hy => ha.m y (List.mem_filter.1 hy).1, fun y hy => ha.b y (List.mem_filter.1 hy).1⟩
theorem nice_nil : Nice [] := ⟨by unfold SrtL; exact List.Pairwise.nil, fun y h => by simp at h, fun y h => by simp at h⟩
theorem jn_wt {a b : List Series} (ha : Nice a) (hb : Nice b) : wt (jn a b) ≤ wt a + wt b := (jn_inv b a ha.s ha.m ha.b hb.m hb.b).2.2.2
theorem jnAll_nice : ∀ {ls : List (List Series)} {a : List Series}, Nice a → (∀ l ∈ ls, Nice l) → Nice (jnAll ls a)
  | [], a, ha, _ => ha
  | l :: ls, a, ha, h => jnAll_nice (ls := ls) (ha.jn (h l (List.mem_cons_self ..))) fun x hx => h x (List.mem_cons_of_mem _ hx)
theorem jnAll_wt : ∀ {ls : List (List Series)} {a : List Series}, Nice a → (∀ l ∈ ls, Nice l) → wt (jnAll ls a) ≤ wt a + sumF wt ls
  | [], a, ha, _ => Nat.le_refl _
  | l :: ls, a, ha, h => by
    have h1 := h l (List.mem_cons_self ..)
    have h2 := jnAll_wt (ls := ls) (ha.jn h1) fun x hx => h x (List.mem_cons_of_mem _ hx)
    have h3 := jn_wt ha h1
    show wt (jnAll ls (Go.Ring.jn a l)) ≤ _
    simp only [sumF]
    omega
/-- To take from each what is asked for, one behind the other, is to take it from all together. -/
theorem jnAll_filter (f : List Label → Bool) {own : List Series} (ho : Nice own) : ∀ (ls : List (List Series)) (g : List Series), Nice g → (∀ l ∈ ls, Nice l) →
    jnAll (ls.map fun l => l.filter fun s => f s.labels) (jn own (g.filter fun s => f s.labels)) = jn own ((jnAll ls g).filter fun s => f s.labels)
  | [], g, _, _ => rfl
  | l :: ls, g, hg, h => by
    have hl := h l (List.mem_cons_self ..)
    have ih := jnAll_filter f ho ls (jn g l) (hg.jn hl) fun x hx => h x (List.mem_cons_of_mem _ hx)
    show jnAll _ (jn (jn own (g.filter fun s => f s.labels)) (l.filter fun s => f s.labels)) = _
    have hgf := hg.filter fun s => f s.labels
    have hlf := hl.filter fun s => f s.labels
    rw [jn_assoc ho.s hgf.s hlf.s ho.m hgf.m hlf.m ho.b hgf.b hlf.b, ← filter_jn hg.s hl.s hg.m hl.m hg.b hl.b]
    exact ih
theorem jn_nil (a : List Series) : jn a [] = a := rfl
theorem repaired_eq (f : List Label → Bool) {own : List Series} (ho : Nice own) (ls : List (List Series)) (h : ∀ l ∈ ls, Nice l) : jnAll (ls.map fun l => l.filter fun s => f s.labels) own = jn own ((jnAll ls []).filter fun s => f s.labels) := by
  have := jnAll_filter f ho ls [] nice_nil h
  simpa [jn_nil] using this
end Go.Ring

/- Copies of samples and series, two rows of samples laid together: program and reference. No condition beyond the lengths. -/
set_option maxRecDepth 100000
set_option linter.unusedVariables false
set_option linter.unusedSimpArgs false
namespace Go.Ring
open Go Go.RowKit Go.Eager Go.Abs Go.Proofs
theorem f167_t (x : List Sample) (hx : x.length ≤ 1048576) : PFnT Tryz.prog 167 [eSampleS x] (eSampleS x) := by
  refine fnp_ok (n := 8) Tryz.func167 rfl rfl rfl (Nat.le_of_ble_eq_true rfl) rfl fun w0 O => ?_
  refine ok_seq fun K1 h1 => ok_region rfl (q_as _ rfl (run_nil (h1 _ ?_))); clear h1 K1
  refine ok_seq fun K2 h2 => ?_
  refine ok_seq fun K3 h3 => ok_region rfl (q_mv _ rfl (q_eqn Tryz.underlying123 rfl (fun b hb => run_nil (h3 _ ?_)))); clear h3 K3
  refine ok_cond rfl (fun c4 => ?_) (fun c4 => ?_)
  · have hn : x = [] := by have := hb c4; simpa using this
    subst hn
    refine ok_seq fun K5 h5 => ?_
    refine ok_region rfl (q_as _ rfl (run_nil (h5 _ ?_)))
    clear h5 K5
    exact ok_nilT 2 (ok_ret ⟨_, ⟨_, _, rfl, rfl, rfl⟩, .tr _ _ _ _, fun b hb => (zn_tr hb).elim⟩)
  · refine ok_skip (h2 _ ?_)
    rcases x with _ | ⟨u, x⟩
    · refine ok_seq fun K6 h6 => ok_region rfl (q_lito0 _ el123 ze122 (by decide) rfl rfl (q_mv _ rfl (q_appE el123 rfl rfl rfl (q_ao _ rfl (run_nil (h6 _ ?_)))))); clear h6 K6
      obtain ⟨g1, g2, g3⟩ := gd_flatL (rs := ([] : List Sample).map eSample) (fun r hr => by obtain ⟨y, _, rfl⟩ := List.mem_map.1 hr; rfl)
      refine ok_treed (k := 5) (n := 2) (T := 122) (rs := ([] : List Sample).map eSample) (ss := ([] : List Sample).map eSample) rfl rfl g1 g2 (fun r hr b hb => (g3 r hr b hb).elim) (fun Z v hZ => ?_)
      exact ok_ret ⟨_, ⟨_, _, rfl, rfl, rfl⟩, .tr Z 2 _ v, fun b hb => (hZ b (zn_tr hb)).elim id fun h => h.elim⟩
    · refine ok_seq fun K6 h6 => ok_region rfl (q_lito0 _ el123 ze122 (by decide) rfl rfl (q_mv _ rfl (q_app _ el123 ze122 rfl by122 rfl rfl rfl rfl rfl (by simp) (by intro s hs; obtain ⟨y, _, rfl⟩ := List.mem_map.1 hs; exact .inl ⟨_, rfl⟩) (by simp only [List.length_map, List.length_cons, List.length_nil] at hx ⊢; unfold maxLen; omega) (by simp only [List.length_map, List.length_cons, List.length_nil] at hx ⊢; omega) (q_ao _ rfl (run_nil (h6 _ ?_)))))); clear h6 K6
      obtain ⟨g1, g2, g3⟩ := gd_flatL (rs := (u :: x).map eSample) (fun r hr => by obtain ⟨y, _, rfl⟩ := List.mem_map.1 hr; rfl)
      refine ok_treed (k := 7) (n := 2) (T := 122) (rs := (u :: x).map eSample) (ss := (u :: x).map eSample) rfl rfl g1 g2 (fun r hr b hb => (g3 r hr b hb).elim) (fun Z v hZ => ?_)
      exact ok_ret ⟨_, ⟨_, _, rfl, rfl, rfl⟩, .tr Z 2 _ v, fun b hb => (hZ b (zn_tr hb)).elim id fun h => h.elim⟩
theorem f193_t (x : List Sample) (hx : x.length ≤ 1048576) : PFnT Tryz.prog 193 [eSampleS x] (eSampleS x) := by
  refine fnp_ok (n := 7) Tryz.func193 rfl rfl rfl (Nat.le_of_ble_eq_true rfl) rfl fun w0 O => ?_
  refine ok_seq fun K1 h1 => ok_region rfl (q_as _ rfl (run_nil (h1 _ ?_))); clear h1 K1
  refine ok_seq fun K2 h2 => ok_region rfl (q_an (n := 2) 122 (by decide) rfl rfl rfl (run_nil (h2 _ ?_))); clear h2 K2
  rcases x with _ | ⟨u, x⟩
  · refine ok_seq fun K3 h3 => ok_region rfl (q_mo _ rfl (q_mv _ rfl (q_appE el123 rfl rfl rfl (q_ao _ rfl (run_nil (h3 _ ?_)))))); clear h3 K3
    obtain ⟨g1, g2, g3⟩ := gd_flatL (rs := ([] : List Sample).map eSample) (fun r hr => by obtain ⟨y, _, rfl⟩ := List.mem_map.1 hr; rfl)
    refine ok_treed (k := 3) (n := 2) (T := 122) (rs := ([] : List Sample).map eSample) (ss := ([] : List Sample).map eSample) rfl rfl g1 g2 (fun r hr b hb => (g3 r hr b hb).elim) (fun Z v hZ => ?_)
    exact ok_ret ⟨_, ⟨_, _, rfl, rfl, rfl⟩, .tr Z 2 _ v, fun b hb => (hZ b (zn_tr hb)).elim id fun h => h.elim⟩
  · refine ok_seq fun K3 h3 => ok_region rfl (q_mo _ rfl (q_mv _ rfl (q_app _ el123 ze122 rfl by122 rfl rfl rfl rfl rfl (by simp) (by intro s hs; obtain ⟨y, _, rfl⟩ := List.mem_map.1 hs; exact .inl ⟨_, rfl⟩) (by simp only [List.length_map, List.length_cons, List.length_nil] at hx ⊢; unfold maxLen; omega) (by simp only [List.length_map, List.length_cons, List.length_nil] at hx ⊢; omega) (q_ao _ rfl (run_nil (h3 _ ?_)))))); clear h3 K3
    obtain ⟨g1, g2, g3⟩ := gd_flatL (rs := (u :: x).map eSample) (fun r hr => by obtain ⟨y, _, rfl⟩ := List.mem_map.1 hr; rfl)
    refine ok_treed (k := 6) (n := 2) (T := 122) (rs := (u :: x).map eSample) (ss := (u :: x).map eSample) rfl rfl g1 g2 (fun r hr b hb => (g3 r hr b hb).elim) (fun Z v hZ => ?_)
    exact ok_ret ⟨_, ⟨_, _, rfl, rfl, rfl⟩, .tr Z 2 _ v, fun b hb => (hZ b (zn_tr hb)).elim id fun h => h.elim⟩
theorem f133_o (x : List Series) (hx : x.length ≤ 1048576 ∧ ∀ y ∈ x, SSeries y) : PFnOT Tryz.prog 133 [eSeriesS x] 2 125 (x.map eSeries) := by
  refine fnot_ok (m := 24) (by omega) Tryz.func133 rfl rfl rfl (Nat.le_of_ble_eq_true rfl) rfl fun w0 O => ?_
  have hxl := hx.1
  refine ok_seq fun K1 h1 => ok_region rfl (q_as _ rfl (run_nil (h1 _ ?_))); clear h1 K1
  refine ok_seq fun K2 h2 => ok_region rfl (q_an (n := 2) 125 (by decide) rfl rfl rfl (run_nil (h2 _ ?_))); clear h2 K2
  refine ok_seq fun K3 h3 => ?_
  refine ok_seq fun K4 h4 => ok_region rfl (q_mv _ rfl (q_len eS63 rfl (q_mv _ rfl (run_nil (h4 _ ?_))))); clear h4 K4
  rw [List.length_map]
  refine ok_block ?_
  refine ok_loop (fun (s : Nat × List SV) => ⟨[(3, .own 3), (6, .sv (eSeriesS x)), (7, .sv (int x.length)), (8, .sv (int s.1))], [(3, .row 2 125 s.2)]⟩) (fun s => Cps w0 s.2 ((x.take s.1).map eSeries)) (fun s => x.length - s.1) (0, []) (Cps.nil w0) (le_sub ⟨rfl, rfl, rfl, rfl, trivial⟩ ⟨rfl, trivial⟩) (fun s J => ?_)
  obtain ⟨k, rs⟩ := s
  simp only at J
  have hrl : rs.length ≤ k := by
    rw [J.len, List.length_map, List.length_take]; omega
  refine ok_seq fun K5 h5 => ok_region rfl (q_bin _ _ _ rfl rfl rfl (run_nil (h5 _ ?_))); clear h5 K5
  refine ok_seq fun K6 h6 => ?_
  refine ok_cond rfl (fun c7 => ?_) (fun c7 => ?_)
  · refine ok_skip (h6 _ ?_)
    have hk : k < x.length := by simpa using c7
    obtain ⟨u, hu⟩ := sget hk
    have nu := hx.2 u (smem hu)
    have hd : (x.take (k + 1)).map eSeries = (x.take k).map eSeries ++ [eSeries u] := by rw [List.take_add_one, hu, Option.toList_some, List.map_append]; rfl
    refine ok_seq fun K8 h8 => ?_
    refine ok_block ?_
    refine ok_seq fun K9 h9 => ok_region rfl (q_ia el63 rfl rfl (by omega) (mget (f := eSeries) hu) (q_lds _ ag125 rfl sz125 (q_alloc _ ze125 rfl rfl rfl rfl (q_sts _ rfl rfl rfl sz125 (Nat.le_of_ble_eq_true rfl) rfl (run_nil (h9 _ ?_)))))); clear h9 K9
    refine ok_last fun K10 h10 => ok_region_d [0, 0, 1, 3, 0, 1, 3, 2, 3, 2, 0] #[[], [], [1], [1, 2], [], [4], [1, 2, 3, 4, 5], [1, 2, 3, 4, 5, 6], [1, 2, 3, 4, 5, 6, 7], [0, 1, 2, 3, 4, 5, 6, 7, 8], [0, 1, 2, 3, 4, 5, 6, 7, 8, 9]] [0, 1, 2, 4, 5, 3, 6, 7, 8, 9, 10] (by kernel_rfl) (by kernel_rfl) rfl rfl (
      q_mo _ rfl (q_fap fd125_0 rfl (by decide) (q_ldb (.sv (eLabelS u.labels)) ag78 rfl rfl rfl (q_fap fd125_1 rfl (by decide) (q_ldb (.sv (eSampleS u.samples)) ag123 rfl rfl rfl (q_callr (f166_t u.labels nu.1.1) cl166 rfl (fun r0 hr0 hz0 ha0 => ?_)))))))
    obtain ⟨Z0, v0, rfl⟩ := gd_sl_inv hr0
    refine q_callr (f167_t u.samples nu.2) cl167 rfl (fun r1 hr1 hz1 ha1 => ?_)
    obtain ⟨Z1, v1, rfl⟩ := gd_sl_inv hr1
    have d01 : ∀ b, Z0 b → ¬ Z1 b := fun b h0 h1 => ha1.1 15 _ b rfl (.tr Z0 _ v0 h0) (.tr Z1 _ v1 h1)
    have hn : ∀ b, Zn b (.agg [.tr Z0 (eLabelS u.labels) v0, .tr Z1 (eSampleS u.samples) v1]) → w0.heap.size ≤ b := fun b hb => by
      simp only [znA_cons, znI_raw, znI_tr, znA_nil, or_false, false_or] at hb
      rcases hb with h | h
      · exact hz0 b (.tr Z0 _ v0 h)
      · exact hz1 b (.tr Z1 _ v1 h)
    have hfresh := J.snoc (gc_Series u d01) (fun y hy b hb hb' => by
      simp only [znA_cons, znI_raw, znI_tr, znA_nil, or_false, false_or] at hb'
      rcases hb' with h | h
      · exact ha0.2 3 2 125 _ y b rfl hy hb (.tr Z0 _ v0 h)
      · exact ha1.2 3 2 125 _ y b rfl hy hb (.tr Z1 _ v1 h)) hn
    rw [← hd] at hfresh
    refine (q_bld _ (bl125 u) rfl rfl rfl (q_lit1 _ _ el63 ze125 (by decide) (by decide) rfl (.inl ⟨_, rfl⟩) rfl (
      q_app _ el63 ze125 rfl by125 rfl rfl rfl rfl rfl (by simp) (by intro s hs; simp at hs; subst hs; exact .inl ⟨_, rfl⟩) (by show rs.length + 1 ≤ maxLen; unfold maxLen; omega) (by show (rs.length + 1) * 48 ≤ _; omega) (q_ao _ rfl (run_nil (h10 _ (h8 _ ?_)))))))
    refine ok_last fun K11 h11 => ok_region rfl (
      q_add rfl rfl (by omega) (q_mv _ rfl (run_nil (h11 _ ⟨(k + 1, _), by simp only; omega, hfresh, le_rek 3 21 ⟨rfl, rfl, rfl, rfl, trivial⟩ ⟨rfl, trivial⟩ rfl rfl rfl rfl ⟨rfl, trivial⟩⟩))))
  · rw [List.take_of_length_le (by have : ¬ ((k : Int) < x.length) := by simpa using c7
                                   omega)] at J
    refine ok_exit (h3 _ ?_)
    refine ok_seq fun K12 h12 => ok_region rfl (q_mo _ rfl (q_ao _ rfl (run_nil (h12 _ ?_)))); clear h12 K12
    exact ok_ret ⟨3, rs, rfl, rfl, J⟩
theorem f124_o (x : List Series) (hx : x.length ≤ 1048576 ∧ ∀ y ∈ x, SSeries y) : PFnOT Tryz.prog 124 [eSeriesS x] 2 125 (x.map eSeries) := by
  refine fnot_ok (m := 24) (by omega) Tryz.func124 rfl rfl rfl (Nat.le_of_ble_eq_true rfl) rfl fun w0 O => ?_
  have hxl := hx.1
  refine ok_seq fun K1 h1 => ok_region rfl (q_as _ rfl (run_nil (h1 _ ?_))); clear h1 K1
  refine ok_seq fun K2 h2 => ok_region rfl (q_an (n := 2) 125 (by decide) rfl rfl rfl (run_nil (h2 _ ?_))); clear h2 K2
  refine ok_seq fun K3 h3 => ?_
  refine ok_seq fun K4 h4 => ok_region rfl (q_mv _ rfl (q_len eS63 rfl (q_mv _ rfl (run_nil (h4 _ ?_))))); clear h4 K4
  rw [List.length_map]
  refine ok_block ?_
  refine ok_loop (fun (s : Nat × List SV) => ⟨[(3, .own 3), (6, .sv (eSeriesS x)), (7, .sv (int x.length)), (8, .sv (int s.1))], [(3, .row 2 125 s.2)]⟩) (fun s => Cps w0 s.2 ((x.take s.1).map eSeries)) (fun s => x.length - s.1) (0, []) (Cps.nil w0) (le_sub ⟨rfl, rfl, rfl, rfl, trivial⟩ ⟨rfl, trivial⟩) (fun s J => ?_)
  obtain ⟨k, rs⟩ := s
  simp only at J
  have hrl : rs.length ≤ k := by
    rw [J.len, List.length_map, List.length_take]; omega
  refine ok_seq fun K5 h5 => ok_region rfl (q_bin _ _ _ rfl rfl rfl (run_nil (h5 _ ?_))); clear h5 K5
  refine ok_seq fun K6 h6 => ?_
  refine ok_cond rfl (fun c7 => ?_) (fun c7 => ?_)
  · refine ok_skip (h6 _ ?_)
    have hk : k < x.length := by simpa using c7
    obtain ⟨u, hu⟩ := sget hk
    have nu := hx.2 u (smem hu)
    have hd : (x.take (k + 1)).map eSeries = (x.take k).map eSeries ++ [eSeries u] := by rw [List.take_add_one, hu, Option.toList_some, List.map_append]; rfl
    refine ok_seq fun K8 h8 => ?_
    refine ok_block ?_
    refine ok_seq fun K9 h9 => ok_region rfl (q_ia el63 rfl rfl (by omega) (mget (f := eSeries) hu) (q_lds _ ag125 rfl sz125 (q_alloc _ ze125 rfl rfl rfl rfl (q_sts _ rfl rfl rfl sz125 (Nat.le_of_ble_eq_true rfl) rfl (run_nil (h9 _ ?_)))))); clear h9 K9
    refine ok_last fun K10 h10 => ok_region_d [0, 0, 1, 3, 0, 1, 3, 2, 3, 2, 0] #[[], [], [1], [1, 2], [], [4], [1, 2, 3, 4, 5], [1, 2, 3, 4, 5, 6], [1, 2, 3, 4, 5, 6, 7], [0, 1, 2, 3, 4, 5, 6, 7, 8], [0, 1, 2, 3, 4, 5, 6, 7, 8, 9]] [0, 1, 2, 4, 5, 3, 6, 7, 8, 9, 10] (by kernel_rfl) (by kernel_rfl) rfl rfl (
      q_mo _ rfl (q_fap fd125_0 rfl (by decide) (q_ldb (.sv (eLabelS u.labels)) ag78 rfl rfl rfl (q_fap fd125_1 rfl (by decide) (q_ldb (.sv (eSampleS u.samples)) ag123 rfl rfl rfl (q_callr (f153_t u.labels nu.1.1) cl153 rfl (fun r0 hr0 hz0 ha0 => ?_)))))))
    obtain ⟨Z0, v0, rfl⟩ := gd_sl_inv hr0
    refine q_callr (f193_t u.samples nu.2) cl193 rfl (fun r1 hr1 hz1 ha1 => ?_)
    obtain ⟨Z1, v1, rfl⟩ := gd_sl_inv hr1
    have d01 : ∀ b, Z0 b → ¬ Z1 b := fun b h0 h1 => ha1.1 15 _ b rfl (.tr Z0 _ v0 h0) (.tr Z1 _ v1 h1)
    have hn : ∀ b, Zn b (.agg [.tr Z0 (eLabelS u.labels) v0, .tr Z1 (eSampleS u.samples) v1]) → w0.heap.size ≤ b := fun b hb => by
      simp only [znA_cons, znI_raw, znI_tr, znA_nil, or_false, false_or] at hb
      rcases hb with h | h
      · exact hz0 b (.tr Z0 _ v0 h)
      · exact hz1 b (.tr Z1 _ v1 h)
    have hfresh := J.snoc (gc_Series u d01) (fun y hy b hb hb' => by
      simp only [znA_cons, znI_raw, znI_tr, znA_nil, or_false, false_or] at hb'
      rcases hb' with h | h
      · exact ha0.2 3 2 125 _ y b rfl hy hb (.tr Z0 _ v0 h)
      · exact ha1.2 3 2 125 _ y b rfl hy hb (.tr Z1 _ v1 h)) hn
    rw [← hd] at hfresh
    refine (q_bld _ (bl125 u) rfl rfl rfl (q_lit1 _ _ el63 ze125 (by decide) (by decide) rfl (.inl ⟨_, rfl⟩) rfl (
      q_app _ el63 ze125 rfl by125 rfl rfl rfl rfl rfl (by simp) (by intro s hs; simp at hs; subst hs; exact .inl ⟨_, rfl⟩) (by show rs.length + 1 ≤ maxLen; unfold maxLen; omega) (by show (rs.length + 1) * 48 ≤ _; omega) (q_ao _ rfl (run_nil (h10 _ (h8 _ ?_)))))))
    refine ok_last fun K11 h11 => ok_region rfl (
      q_add rfl rfl (by omega) (q_mv _ rfl (run_nil (h11 _ ⟨(k + 1, _), by simp only; omega, hfresh, le_rek 3 21 ⟨rfl, rfl, rfl, rfl, trivial⟩ ⟨rfl, trivial⟩ rfl rfl rfl rfl ⟨rfl, trivial⟩⟩))))
  · rw [List.take_of_length_le (by have : ¬ ((k : Int) < x.length) := by simpa using c7
                                   omega)] at J
    refine ok_exit (h3 _ ?_)
    refine ok_seq fun K12 h12 => ok_region rfl (q_mo _ rfl (q_ao _ rfl (run_nil (h12 _ ?_)))); clear h12 K12
    exact ok_ret ⟨3, rs, rfl, rfl, J⟩
section
variable {Γ : Ctx} {ops : Array Oper} {l : List (Oper × Nat)} {t : List (Nat × LV)} {h : List (Nat × Ent)} {K : St → Prop} {c d ty : Nat} {ps : String} {af : Array Edge} {x y : Operand}
/-- All but the first. -/
theorem q_tl {α : Type} {f : α → SV} {a : α} {r : List α} {S e n : Nat} (he : elOf Γ.P S = some (e, n)) (hx : St.ev ⟨t, h⟩ x = .sv (.sl n ((a :: r).map f))) (hk : RunL Γ ops l ⟨(d, .sv (.sl n (r.map f))) :: t, h⟩ K) :
    RunL Γ ops ((⟨some d, .slice S x (some (.const (.int .i64 1))) none none, ty, ps, af, none⟩, c) :: l) ⟨t, h⟩ K := by
  refine q_sl 1 (((a :: r).map f).length : Int) he hx (.inr ⟨_, _, rfl, rfl⟩) (.inl ⟨rfl, rfl⟩) (by omega) (by rw [List.length_map, List.length_cons]; omega) (Int.le_refl _) ?_
  have e1 : (((a :: r).map f).drop (1 : Int).toNat).take ((((a :: r).map f).length : Int) - 1).toNat = r.map f := by
    rw [show (1 : Int).toNat = 1 from rfl, List.map_cons, List.drop_succ_cons, List.drop_zero, List.take_of_length_le (by simp)]
  rw [e1]; exact hk
end
theorem fst0 (l : List Sample) : ∃ x, 0 < l.length → l[0]? = some x := by
  cases l with
  | nil => exact ⟨⟨0, 0⟩, fun h => by simp at h⟩
  | cons x l => exact ⟨x, fun _ => rfl⟩
theorem zget {l : List Sample} {x : Sample} (h : 0 < l.length → l[0]? = some x) (h0 : 0 < l.length) : (l.map eSample)[(0 : Int).toNat]? = some (eSample x) := by
  rw [show (0 : Int).toNat = 0 from rfl]; exact mget (h h0)
end Go.Ring

/- Two rows of samples laid together: program and reference. No condition beyond the lengths. -/
set_option maxRecDepth 100000
set_option linter.unusedVariables false
set_option linter.unusedSimpArgs false
namespace Go.Ring
open Go Go.RowKit Go.Eager Go.Abs Go.Proofs
theorem mg_nil0 (b : List Sample) : mg [] b = b := by rw [mg]
theorem f216_t (a b : List Sample) (ha : a.length ≤ 1048576) (hb : b.length ≤ 1048576) : PFnT Tryz.prog 216 [eSampleS a, eSampleS b] (eSampleS (mg a b)) := by
  refine fnp_ok (n := 66) Tryz.func216 rfl rfl rfl (Nat.le_of_ble_eq_true rfl) rfl fun w0 O => ?_
  refine ok_seq fun K1 h1 => ok_region rfl (q_as _ rfl (run_nil (h1 _ ?_))); clear h1 K1
  refine ok_seq fun K2 h2 => ok_region rfl (q_an (n := 2) 122 (by decide) rfl rfl rfl (run_nil (h2 _ ?_))); clear h2 K2
  refine ok_seq fun K3 h3 => ?_
  refine ok_block ?_
  refine ok_loop (fun (s : List Sample × List Sample × List Sample) => ⟨[(0, .sv (eSampleS s.1)), (1, .sv (eSampleS s.2.1)), (5, .own 5)], [(5, .row 2 122 (s.2.2.map eSample))]⟩) (fun s => s.2.2 ++ mg s.1 s.2.1 = mg a b ∧ s.2.2.length + s.1.length + s.2.1.length ≤ a.length + b.length) (fun s => s.1.length + s.2.1.length) (a, b, []) ⟨rfl, by simp⟩ (le_sub ⟨rfl, rfl, rfl, trivial⟩ ⟨rfl, trivial⟩) (fun s J => ?_)
  obtain ⟨p, r, q⟩ := s
  obtain ⟨j1, j2⟩ := J
  simp only at j1 j2
  obtain ⟨x0, hx0⟩ := fst0 p
  obtain ⟨y0, hy0⟩ := fst0 r
  refine ok_seq fun K4 h4 => ?_
  refine ok_seq fun K5 h5 => ?_
  refine ok_region rfl (q_mv _ rfl (q_len eS123 rfl (q_bin _ _ _ rfl rfl rfl (q_mv _ rfl (q_or 3 3 rfl rfl rfl rfl rfl (fun hb13 =>
      q_mv _ rfl (q_len eS123 rfl (q_bin _ _ _ rfl rfl rfl (run_nil ⟨rfl, rfl, rfl, rfl⟩)))) (
    run_nil (h5 _ ?_)))))))
  clear h5 K5
  refine ok_cond rfl (fun c6 => ?_) (fun c6 => ?_)
  · refine ok_skip (h4 _ ?_)
    refine ok_block ?_
    refine ok_seq fun K7 h7 => ?_
    refine ok_region_i (by kernel_rfl) (by kernel_rfl) rfl (
      q_mv _ rfl (q_len eS123 rfl (q_bin _ _ _ rfl rfl rfl (q_mv _ rfl (q_or 14 5 rfl rfl rfl rfl rfl (fun hb32 =>
        q_mv _ rfl (q_len eS123 rfl (q_bin _ _ _ rfl rfl rfl (q_mv _ rfl (q_and 9 9 rfl rfl rfl rfl rfl (fun hb31 =>
          q_mv _ rfl (q_ia el123 rfl rfl (by omega) (zget hx0 (by rcases p with _ | ⟨x, p⟩; exact absurd hb31 (by simp); simp)) (q_fa _ fd122_0 rfl rfl (by decide) (q_ld _ ag3 rfl rfl (q_mv _ rfl (q_ia el123 rfl rfl (by omega) (zget hy0 (by rcases r with _ | ⟨x, r⟩; exact absurd hb32 (by simp); simp)) (q_fa _ fd122_0 rfl rfl (by decide) (
          q_ld _ ag3 rfl rfl (q_bin _ _ _ rfl rfl rfl (run_nil ⟨rfl, rfl, rfl, rfl⟩)))))))))) (
        run_nil ⟨rfl, rfl, rfl, rfl⟩)))))) (
      run_nil (h7 _ ?_)))))))
    clear h7 K7
    refine ok_cond rfl (fun c8 => ?_) (fun c8 => ?_)
    · rcases p with _ | ⟨x, p⟩
      · exfalso
        rcases r with _ | ⟨y, r⟩
        · simp at c6
        · simp at c8
          omega
      have ex : x = x0 := by have := hx0 (by simp); simpa using this
      subst ex
      refine ok_seq_join (fun (v : List Sample) => ⟨[(0, .sv (eSampleS (x :: p))), (1, .sv (eSampleS v)), (5, .own 5)], [(5, .row 2 122 (q.map eSample))]⟩) (fun v => mg (x :: p) r = x :: mg p v ∧ v.length ≤ r.length) ?_ (fun v J => ?_)
      · refine ok_seq fun K9 h9 => ?_
        refine ok_region_i (by kernel_rfl) (by kernel_rfl) rfl (
          q_mv _ rfl (q_len eS123 rfl (q_bin _ _ _ rfl rfl rfl (q_mv _ rfl (q_and 9 9 rfl rfl rfl rfl rfl (fun hb46 =>
            q_mv _ rfl (q_ia el123 rfl rfl (by omega) (zget (l := x :: p) (x := x) (fun _ => rfl) (by simp)) (q_fa _ fd122_0 rfl rfl (by decide) (q_ld _ ag3 rfl rfl (q_mv _ rfl (q_ia el123 rfl rfl (by omega) (zget hy0 (by rcases r with _ | ⟨x, r⟩; exact absurd hb46 (by simp); simp)) (q_fa _ fd122_0 rfl rfl (by decide) (
            q_ld _ ag3 rfl rfl (q_bin _ _ _ rfl rfl rfl (run_nil ⟨rfl, rfl, rfl, rfl⟩)))))))))) (
          run_nil (h9 _ ?_)))))))
        clear h9 K9
        refine ok_cond rfl (fun c10 => ?_) (fun c10 => ?_)
        · rcases r with _ | ⟨y, r⟩
          · simp at c10
          have ey : y = y0 := by have := hy0 (by simp); simpa using this
          subst ey
          have ht : x.time = y.time := by
            rw [Bool.and_eq_true] at c10
            exact of_decide_eq_true c10.2
          refine ok_last fun K11 h11 => ok_region rfl (
            q_mv _ rfl (q_tl el123 rfl (q_as _ rfl (run_nil (h11 _ ⟨r, ⟨mg_eq ht, by simp⟩, le_sub ⟨rfl, rfl, rfl, trivial⟩ ⟨rfl, trivial⟩⟩)))))
        · refine ok_skip ⟨r, ⟨?_, Nat.le_refl _⟩, le_sub ⟨rfl, rfl, rfl, trivial⟩ ⟨rfl, trivial⟩⟩
          rcases r with _ | ⟨y, r⟩
          · rw [mg_nil, mg_nil]
          · have ey : y = y0 := by have := hy0 (by simp); simpa using this
            subst ey
            have t1 : x.time ≤ y.time := by
              rw [Bool.or_eq_true, Bool.and_eq_true] at c8
              rcases c8 with c | c
              · exact absurd (of_decide_eq_true c) (by simp; omega)
              · exact of_decide_eq_true c.2
            have t2 : ¬ x.time = y.time := by
              intro e
              rw [Bool.and_eq_false_iff] at c10
              rcases c10 with c | c
              · exact absurd (of_decide_eq_false c) (by simp)
              · exact absurd e (of_decide_eq_false c)
            exact mg_lt (by omega)
      · obtain ⟨m1, m2⟩ := J
        refine ok_seq fun K12 h12 => ?_
        have hq : q.length ≤ 2097152 := by omega
        refine ok_region rfl (q_mo _ rfl (q_mv _ rfl (q_ia el123 rfl rfl (by omega) (zget (l := x :: p) (x := x) (fun _ => rfl) (by simp)) (q_lds _ ag122 rfl sz122 (q_lit1 _ (eSample x) el123 ze122 (by decide) (by decide) rfl (.inl ⟨_, rfl⟩) rfl (q_app (q := [eSample x]) _ el123 ze122 rfl by122 rfl rfl rfl rfl rfl (by simp) (by intro s hs; simp at hs; subst hs; exact .inl ⟨_, rfl⟩) (by rw [List.length_map]; show q.length + 1 ≤ maxLen; unfold maxLen; omega) (by rw [List.length_map]; show (q.length + 1) * 16 ≤ _; omega) (
          q_ao _ rfl (run_nil (h12 _ ?_)))))))))
        clear h12 K12
        refine ok_last fun K13 h13 => ok_region rfl (
          q_mv _ rfl (q_tl el123 rfl (q_as _ rfl (run_nil (h13 _ ⟨(p, v, q ++ [x]), by simp only [List.length_cons]; omega, ⟨by simp only; rw [List.append_assoc, List.singleton_append, ← m1]; exact j1, by simp only [List.length_append, List.length_cons, List.length_nil] at j2 ⊢; omega⟩, by simp only; rw [List.map_append]; exact le_rek 5 54 ⟨rfl, rfl, rfl, trivial⟩ ⟨rfl, trivial⟩ rfl rfl rfl rfl ⟨rfl, trivial⟩⟩)))))
    · rcases r with _ | ⟨y, r⟩
      · simp at c8
      have ey : y = y0 := by have := hy0 (by simp); simpa using this
      subst ey
      have m1 : mg p (y :: r) = y :: mg p r := by
        rcases p with _ | ⟨x, p⟩
        · rw [mg_nil0, mg_nil0]
        · have ex : x = x0 := by have := hx0 (by simp); simpa using this
          subst ex
          rw [Bool.or_eq_false_iff, Bool.and_eq_false_iff] at c8
          refine mg_gt ?_
          rcases c8.2 with c | c
          · exact absurd (of_decide_eq_false c) (by simp)
          · have := of_decide_eq_false c; omega
      have hq : q.length ≤ 2097152 := by omega
      refine ok_seq fun K14 h14 => ?_
      refine ok_region rfl (q_mo _ rfl (q_mv _ rfl (q_ia el123 rfl rfl (by omega) (zget (l := y :: r) (x := y) (fun _ => rfl) (by simp)) (q_lds _ ag122 rfl sz122 (q_lit1 _ (eSample y) el123 ze122 (by decide) (by decide) rfl (.inl ⟨_, rfl⟩) rfl (q_app (q := [eSample y]) _ el123 ze122 rfl by122 rfl rfl rfl rfl rfl (by simp) (by intro s hs; simp at hs; subst hs; exact .inl ⟨_, rfl⟩) (by rw [List.length_map]; show q.length + 1 ≤ maxLen; unfold maxLen; omega) (by rw [List.length_map]; show (q.length + 1) * 16 ≤ _; omega) (
        q_ao _ rfl (run_nil (h14 _ ?_)))))))))
      clear h14 K14
      refine ok_last fun K15 h15 => ok_region rfl (
        q_mv _ rfl (q_tl el123 rfl (q_as _ rfl (run_nil (h15 _ ⟨(p, r, q ++ [y]), by simp only [List.length_cons]; omega, ⟨by simp only; rw [List.append_assoc, List.singleton_append, ← m1]; exact j1, by simp only [List.length_append, List.length_cons, List.length_nil] at j2 ⊢; omega⟩, by simp only; rw [List.map_append]; exact le_rek 5 62 ⟨rfl, rfl, rfl, trivial⟩ ⟨rfl, trivial⟩ rfl rfl rfl rfl ⟨rfl, trivial⟩⟩)))))
  · have hp : p = [] := by
      rcases p with _ | ⟨x, p⟩
      · rfl
      · simp at c6
    have hr : r = [] := by
      rcases r with _ | ⟨x, r⟩
      · rfl
      · simp at c6
    subst hp hr
    rw [mg_nil, List.append_nil] at j1
    refine ok_exit (h3 _ ?_)
    refine ok_seq fun K16 h16 => ok_region rfl (q_mo _ rfl (q_ao _ rfl (run_nil (h16 _ ?_)))); clear h16 K16
    rw [j1]
    obtain ⟨g1, g2, g3⟩ := gd_flatL (rs := (mg a b).map eSample) (fun r hr => by obtain ⟨y, _, rfl⟩ := List.mem_map.1 hr; rfl)
    refine ok_treed (k := 5) (n := 2) (T := 122) (rs := (mg a b).map eSample) (ss := (mg a b).map eSample) rfl rfl g1 g2 (fun r hr b hb => (g3 r hr b hb).elim) (fun Z v hZ => ?_)
    exact ok_ret ⟨_, ⟨_, _, rfl, rfl, rfl⟩, .tr Z 2 _ v, fun b hb => (hZ b (zn_tr hb)).elim id fun h => h.elim⟩
theorem fstI_ (l : List Sample) (i : Nat) : ∃ x, i < l.length → l[i]? = some x := by
  by_cases h : i < l.length
  · obtain ⟨x, hx⟩ := sget h; exact ⟨x, fun _ => hx⟩
  · exact ⟨⟨0, 0⟩, fun h' => absurd h' h⟩
theorem f206_t (a b : List Sample) (ha : a.length ≤ 1048576) (hb : b.length ≤ 1048576) : PFnT Tryz.prog 206 [eSampleS a, eSampleS b] (eSampleS (mg a b)) := by
  refine fnp_ok (n := 79) Tryz.func206 rfl rfl rfl (Nat.le_of_ble_eq_true rfl) rfl fun w0 O => ?_
  refine ok_seq fun K1 h1 => ok_region rfl (q_as _ rfl (run_nil (h1 _ ?_))); clear h1 K1
  refine ok_seq fun K2 h2 => ok_region rfl (q_an (n := 2) 122 (by decide) rfl rfl rfl (run_nil (h2 _ ?_))); clear h2 K2
  refine ok_seq fun K3 h3 => ok_region rfl (q_as _ rfl (run_nil (h3 _ ?_))); clear h3 K3
  refine ok_seq fun K4 h4 => ok_region rfl (q_as _ rfl (run_nil (h4 _ ?_))); clear h4 K4
  refine ok_seq fun K5 h5 => ?_
  refine ok_block ?_
  refine ok_loop (fun (s : Nat × Nat × List Sample) => ⟨[(0, .sv (eSampleS a)), (1, .sv (eSampleS b)), (5, .own 5), (6, .sv (int s.1)), (7, .sv (int s.2.1))], [(5, .row 2 122 (s.2.2.map eSample))]⟩) (fun s => s.2.2 ++ mg (a.drop s.1) (b.drop s.2.1) = mg a b ∧ s.1 ≤ a.length ∧ s.2.1 ≤ b.length ∧ s.2.2.length ≤ s.1 + s.2.1) (fun s => (a.length - s.1) + (b.length - s.2.1)) (0, 0, []) ⟨rfl, Nat.zero_le _, Nat.zero_le _, Nat.le_refl _⟩ (le_sub ⟨rfl, rfl, rfl, rfl, rfl, trivial⟩ ⟨rfl, trivial⟩) (fun s J => ?_)
  obtain ⟨i, k, q⟩ := s
  obtain ⟨j1, j2, j3, j4⟩ := J
  simp only at j1 j2 j3 j4
  obtain ⟨x, hx⟩ := fstI_ a i
  obtain ⟨y, hy⟩ := fstI_ b k
  refine ok_seq fun K6 h6 => ?_
  refine ok_seq fun K7 h7 => ?_
  refine ok_region rfl (q_mv _ rfl (q_mv _ rfl (q_len eS123 rfl (q_bin _ _ _ rfl rfl rfl (q_mv _ rfl (q_or 4 4 rfl rfl rfl rfl rfl (fun hb17 =>
      q_mv _ rfl (q_mv _ rfl (q_len eS123 rfl (q_bin _ _ _ rfl rfl rfl (run_nil ⟨rfl, rfl, rfl, rfl⟩))))) (
    run_nil (h7 _ ?_))))))))
  clear h7 K7
  refine ok_cond rfl (fun c8 => ?_) (fun c8 => ?_)
  · refine ok_skip (h6 _ ?_)
    refine ok_block ?_
    refine ok_seq fun K9 h9 => ?_
    refine ok_region_i (by kernel_rfl) (by kernel_rfl) rfl (
      q_mv _ rfl (q_mv _ rfl (q_len eS123 rfl (q_bin _ _ _ rfl rfl rfl (q_mv _ rfl (q_or 17 6 rfl rfl rfl rfl rfl (fun hb40 =>
        q_mv _ rfl (q_mv _ rfl (q_len eS123 rfl (q_bin _ _ _ rfl rfl rfl (q_mv _ rfl (q_and 11 11 rfl rfl rfl rfl rfl (fun hb39 =>
          q_mv _ rfl (q_mv _ rfl (q_ia el123 rfl rfl (by omega) (mget (f := eSample) (hx (by have h : ((i : Nat) : Int) < ((a.map eSample).length : Int) := of_decide_eq_true hb39; rw [List.length_map] at h; omega))) (q_fa _ fd122_0 rfl rfl (by decide) (q_ld _ ag3 rfl rfl (q_mv _ rfl (q_mv _ rfl (q_ia el123 rfl rfl (by omega) (mget (f := eSample) (hy (by have h : ¬ ((k : Nat) : Int) = ((b.map eSample).length : Int) := of_decide_eq_false hb40; rw [List.length_map] at h; omega))) (
          q_fa _ fd122_0 rfl rfl (by decide) (q_ld _ ag3 rfl rfl (q_bin _ _ _ rfl rfl rfl (run_nil ⟨rfl, rfl, rfl, rfl⟩)))))))))))) (
        run_nil ⟨rfl, rfl, rfl, rfl⟩))))))) (
      run_nil (h9 _ ?_))))))))
    clear h9 K9
    simp only [List.length_map] at c8
    refine ok_cond rfl (fun c10 => ?_) (fun c10 => ?_)
    · simp only [List.length_map, Bool.or_eq_true, Bool.and_eq_true, decide_eq_true_eq] at c8 c10
      have hi : i < a.length := by omega
      have hxi := hx hi
      have da := drop_cons hxi
      refine ok_seq_join (fun (v : Nat) => ⟨[(0, .sv (eSampleS a)), (1, .sv (eSampleS b)), (5, .own 5), (6, .sv (int i)), (7, .sv (int v))], [(5, .row 2 122 (q.map eSample))]⟩) (fun v => mg (a.drop i) (b.drop k) = x :: mg (a.drop (i + 1)) (b.drop v) ∧ k ≤ v ∧ v ≤ b.length) ?_ (fun v J => ?_)
      · refine ok_seq fun K11 h11 => ?_
        refine ok_region_i (by kernel_rfl) (by kernel_rfl) rfl (
          q_mv _ rfl (q_mv _ rfl (q_len eS123 rfl (q_bin _ _ _ rfl rfl rfl (q_mv _ rfl (q_and 11 11 rfl rfl rfl rfl rfl (fun hb57 =>
            q_mv _ rfl (q_mv _ rfl (q_ia el123 rfl rfl (by omega) (mget (f := eSample) hxi) (q_fa _ fd122_0 rfl rfl (by decide) (q_ld _ ag3 rfl rfl (q_mv _ rfl (q_mv _ rfl (q_ia el123 rfl rfl (by omega) (mget (f := eSample) (hy (by have h : ((k : Nat) : Int) < ((b.map eSample).length : Int) := of_decide_eq_true hb57; rw [List.length_map] at h; omega))) (
            q_fa _ fd122_0 rfl rfl (by decide) (q_ld _ ag3 rfl rfl (q_bin _ _ _ rfl rfl rfl (run_nil ⟨rfl, rfl, rfl, rfl⟩)))))))))))) (
          run_nil (h11 _ ?_))))))))
        clear h11 K11
        refine ok_cond rfl (fun c12 => ?_) (fun c12 => ?_)
        · simp only [List.length_map, Bool.and_eq_true, decide_eq_true_eq] at c12
          have hk : k < b.length := by omega
          refine ok_last fun K13 h13 => ok_region rfl (
            q_mv _ rfl (q_add rfl rfl (by show -9223372036854775808 ≤ (k : Int) + 1 ∧ (k : Int) + 1 ≤ 9223372036854775807; omega) (q_as _ rfl (run_nil (h13 _ ⟨k + 1, ⟨by rw [da, drop_cons (hy hk)]; exact mg_eq c12.2, by omega, by omega⟩, le_sub ⟨rfl, rfl, rfl, rfl, rfl, trivial⟩ ⟨rfl, trivial⟩⟩)))))
        · refine ok_skip ⟨k, ⟨?_, Nat.le_refl _, j3⟩, le_sub ⟨rfl, rfl, rfl, rfl, rfl, trivial⟩ ⟨rfl, trivial⟩⟩
          rw [Bool.and_eq_false_iff] at c12
          simp only [List.length_map, decide_eq_false_iff_not] at c12
          rw [da]
          rcases Nat.lt_or_ge k b.length with hk | hk
          · rw [drop_cons (hy hk)]
            exact mg_lt (by omega)
          · rw [List.drop_of_length_le hk, mg_nil, mg_nil]
      · obtain ⟨m1, m2, m3⟩ := J
        refine ok_seq fun K14 h14 => ?_
        refine ok_region rfl (q_mo _ rfl (q_mv _ rfl (q_mv _ rfl (q_ia el123 rfl rfl (by omega) (mget (f := eSample) hxi) (q_lds _ ag122 rfl sz122 (q_lit1 _ (eSample x) el123 ze122 (by decide) (by decide) rfl (.inl ⟨_, rfl⟩) rfl (
          q_app (q := [eSample x]) _ el123 ze122 rfl by122 rfl rfl rfl rfl rfl (by simp) (by intro s hs; simp at hs; subst hs; exact .inl ⟨_, rfl⟩) (by rw [List.length_map]; show q.length + 1 ≤ maxLen; unfold maxLen; omega) (by rw [List.length_map]; show (q.length + 1) * 16 ≤ _; omega) (q_ao _ rfl (run_nil (h14 _ ?_))))))))))
        clear h14 K14
        refine ok_last fun K15 h15 => ok_region rfl (
          q_mv _ rfl (q_add rfl rfl (by omega) (q_as _ rfl (run_nil (h15 _ ⟨(i + 1, v, q ++ [x]), by simp only; omega, ⟨by simp only; rw [List.append_assoc, List.singleton_append, ← m1]; exact j1, by simp only; omega, m3, by simp only [List.length_append, List.length_cons, List.length_nil]; omega⟩, by simp only; rw [List.map_append]; exact le_rek 5 66 ⟨rfl, rfl, rfl, rfl, rfl, trivial⟩ ⟨rfl, trivial⟩ rfl rfl rfl rfl ⟨rfl, trivial⟩⟩)))))
    · simp only [List.length_map, Bool.or_eq_true, Bool.or_eq_false_iff, Bool.and_eq_false_iff, decide_eq_true_eq, decide_eq_false_iff_not] at c8 c10
      have hk : k < b.length := by omega
      have hyk := hy hk
      have m1 : mg (a.drop i) (b.drop k) = y :: mg (a.drop i) (b.drop (k + 1)) := by
        rw [drop_cons hyk]
        rcases Nat.lt_or_ge i a.length with hi | hi
        · rw [drop_cons (hx hi)]
          exact mg_gt (by omega)
        · rw [List.drop_of_length_le hi, mg_nil0, mg_nil0]
      refine ok_seq fun K16 h16 => ?_
      refine ok_region rfl (q_mo _ rfl (q_mv _ rfl (q_mv _ rfl (q_ia el123 rfl rfl (by omega) (mget (f := eSample) hyk) (q_lds _ ag122 rfl sz122 (q_lit1 _ (eSample y) el123 ze122 (by decide) (by decide) rfl (.inl ⟨_, rfl⟩) rfl (
        q_app (q := [eSample y]) _ el123 ze122 rfl by122 rfl rfl rfl rfl rfl (by simp) (by intro s hs; simp at hs; subst hs; exact .inl ⟨_, rfl⟩) (by rw [List.length_map]; show q.length + 1 ≤ maxLen; unfold maxLen; omega) (by rw [List.length_map]; show (q.length + 1) * 16 ≤ _; omega) (q_ao _ rfl (run_nil (h16 _ ?_))))))))))
      clear h16 K16
      refine ok_last fun K17 h17 => ok_region rfl (
        q_mv _ rfl (q_add rfl rfl (by show -9223372036854775808 ≤ (k : Int) + 1 ∧ (k : Int) + 1 ≤ 9223372036854775807; omega) (q_as _ rfl (run_nil (h17 _ ⟨(i, k + 1, q ++ [y]), by simp only; omega, ⟨by simp only; rw [List.append_assoc, List.singleton_append, ← m1]; exact j1, j2, by simp only; omega, by simp only [List.length_append, List.length_cons, List.length_nil]; omega⟩, by simp only; rw [List.map_append]; exact le_rek 5 75 ⟨rfl, rfl, rfl, rfl, rfl, trivial⟩ ⟨rfl, trivial⟩ rfl rfl rfl rfl ⟨rfl, trivial⟩⟩)))))
  · simp only [List.length_map, Bool.or_eq_false_iff, decide_eq_false_iff_not] at c8
    rw [List.drop_of_length_le (by omega : a.length ≤ i), List.drop_of_length_le (by omega : b.length ≤ k), mg_nil, List.append_nil] at j1
    refine ok_exit (h5 _ ?_)
    refine ok_seq fun K18 h18 => ok_region rfl (q_mo _ rfl (q_ao _ rfl (run_nil (h18 _ ?_)))); clear h18 K18
    rw [j1]
    obtain ⟨g1, g2, g3⟩ := gd_flatL (rs := (mg a b).map eSample) (fun r hr => by obtain ⟨y, _, rfl⟩ := List.mem_map.1 hr; rfl)
    refine ok_treed (k := 5) (n := 2) (T := 122) (rs := (mg a b).map eSample) (ss := (mg a b).map eSample) rfl rfl g1 g2 (fun r hr b hb => (g3 r hr b hb).elim) (fun Z v hZ => ?_)
    exact ok_ret ⟨_, ⟨_, _, rfl, rfl, rfl⟩, .tr Z 2 _ v, fun b hb => (hZ b (zn_tr hb)).elim id fun h => h.elim⟩
end Go.Ring

namespace Go.Ring
open Go Go.RowKit Go.Eager Go.Abs Go.Proofs
set_option maxRecDepth 100000
set_option linter.unusedVariables false
set_option linter.unusedSimpArgs false
theorem ris_lt {xs : List Int} (h : Ris xs) {i j : Nat} (hij : i < j) (hj : j < xs.length) : xs.getD i 0 < xs.getD j 0 := by
  have h1 := ris_le h (j - 1) i (by omega) (by omega)
  have h2 := h j (by omega) hj
  omega
theorem lookup_snoc (q x : Int) (v : Value) : ∀ es : List (Int × Value), (es ++ [(x, v)]).lookup q = match es.lookup q with | some u => some u | none => if q = x then some v else none
  | [] => by
    simp only [List.nil_append, List.lookup_cons, List.lookup_nil]
    by_cases h : q = x
    · subst h; simp
    · have : (q == x) = false := by simpa using h
      simp [this, h]
  | (y, u) :: es => by
    simp only [List.cons_append, List.lookup_cons, lookup_snoc q x v es]
    split <;> rfl
/-- The map says just what is in S. -/
def MapIs (es : List (Int × Value)) (S : Int → Prop) : Prop := ∀ q, es.lookup q = if pB (S q) = true then some (.bool true) else none
theorem MapIs.get {es : List (Int × Value)} {S : Int → Prop} (h : MapIs es S) (q : Int) : (es.lookup q).getD (.bool false) = .bool (pB (S q)) := by
  rw [h q]; cases pB (S q) <;> rfl
theorem MapIs.none {es : List (Int × Value)} {S : Int → Prop} (h : MapIs es S) {q : Int} (hq : pB (S q) = false) : es.lookup q = none := by
  rw [h q, hq]; rfl
theorem MapIs.put {es : List (Int × Value)} {S : Int → Prop} (h : MapIs es S) (x : Int) : MapIs (es ++ [(x, .bool true)]) (fun q => S q ∨ q = x) := by
  intro q
  rw [lookup_snoc, h q]
  by_cases h1 : S q
  · rw [pB_true h1, pB_true (Or.inl h1)]; rfl
  · rw [pB_false h1]
    by_cases h2 : q = x
    · rw [pB_true (Or.inr h2)]; simp [h2]
    · rw [pB_false (fun h => h.elim h1 h2)]; simp [h2]
theorem MapIs.to {es : List (Int × Value)} {S S' : Int → Prop} (h : MapIs es S) (hs : ∀ q, S q ↔ S' q) : MapIs es S' := by
  intro q
  rw [h q, show pB (S q) = pB (S' q) by unfold pB; rw [decide_eq_decide]; exact hs q]
def Sn (r : Ring) (k : Nat) (q : Int) : Prop := ∃ i n, i < k ∧ r.nodes[i]? = some n ∧ q ∈ n.toks
theorem f129_ok (r : Ring) (hr : SRing r) : PFn Tryz.prog 129 [eRing r] (bool (pB (GoodR r))) := by
  obtain ⟨hr1, hr2⟩ := hr
  have hsm : ∀ {i : Nat} {n : RingNode}, r.nodes[i]? = some n → SRingNode n := fun h => hr2 _ (List.mem_of_getElem? h)
  have hl : (r.nodes.map eRingNode).length = r.nodes.length := by simp
  refine fn_ok' (n := 101) Tryz.func129 rfl rfl rfl (Nat.le_of_ble_eq_true rfl) rfl fun w0 O => ?_
  refine ok_seq fun K1 h1 => ok_region rfl (q_boxs _ rfl (Nat.zero_lt_succ _) (q_as _ rfl (run_nil (h1 _ ?_)))); clear h1 K1
  refine ok_seq fun K2 h2 => ?_
  refine ok_seq fun K3 h3 => ?_
  refine ok_region rfl (q_fa _ fd31_0 rfl rfl (by decide) (q_ld _ ag3 rfl rfl (q_bin _ _ _ rfl rfl rfl (q_mv _ rfl (q_or 3 3 rfl rfl rfl rfl rfl (fun hb15 =>
      q_fa _ fd31_0 rfl rfl (by decide) (q_ld _ ag3 rfl rfl (q_bin _ _ _ rfl rfl rfl (run_nil ⟨rfl, rfl, rfl, rfl⟩)))) (
    q_mv _ rfl (q_or 4 4 rfl rfl rfl rfl rfl (fun hb21 =>
      q_fa _ fd31_1 rfl rfl (by decide) (q_ld _ ag29 rfl rfl (q_len eS29 rfl (q_bin _ _ _ rfl rfl rfl (run_nil ⟨rfl, rfl, rfl, rfl⟩))))) (
    run_nil (h3 _ ?_)))))))))
  clear h3 K3
  refine ok_cond rfl (fun c4 => ?_) (fun c4 => ?_)
  · refine ok_seq fun K5 h5 => ok_region rfl (q_as _ rfl (run_nil (h5 _ ?_)))
    refine ok_ret ⟨_, rfl, ?_⟩
    rw [pB_false]; · rfl
    rintro ⟨a1, a2, a3, _⟩
    simp only [Bool.or_eq_true, decide_eq_true_eq, hl] at c4
    omega
  · refine ok_skip (h2 _ ?_)
    simp only [Bool.or_eq_false_iff, decide_eq_false_iff_not, hl] at c4
    obtain ⟨⟨a1, a2⟩, a3⟩ := c4
    refine ok_seq fun K6 h6 => ok_region rfl (q_mmap mp209 rfl rfl (q_ao _ rfl (run_nil (h6 _ ?_)))); clear h6 K6
    refine ok_seq fun K7 h7 => ?_
    refine ok_seq fun K8 h8 => ok_region rfl (q_fa _ fd31_1 rfl rfl (by decide) (q_ld _ ag29 rfl rfl (q_len eS29 rfl (q_mv _ rfl (run_nil (h8 _ ?_)))))); clear h8 K8
    rw [hl]
    refine ok_block ?_
    refine ok_loop (fun (s : Nat × List (Int × Value)) => ⟨[(1, .sv (.ptr (eRing r))), (3, .own 22), (24, .sv (.sl 3 (r.nodes.map eRingNode))), (25, .sv (int r.nodes.length)), (26, .sv (int s.1))], [(22, .map .i64 s.2)]⟩)
      (fun s => (∀ i n, i < s.1 → r.nodes[i]? = some n → At r i n) ∧ MapIs s.2 (Sn r s.1)) (fun s => r.nodes.length - s.1) (0, []) ⟨fun i n h => by simp at h, fun q => by rw [pB_false (fun ⟨i, n, h, _⟩ => by simp at h)]; rfl⟩ (le_sub ⟨rfl, rfl, rfl, rfl, rfl, trivial⟩ ⟨rfl, trivial⟩) (fun s J => ?_)
    obtain ⟨k, es⟩ := s
    obtain ⟨J, JM⟩ := J
    simp only at J JM
    refine ok_seq fun K9 h9 => ok_region rfl (q_bin _ _ _ rfl rfl rfl (run_nil (h9 _ ?_))); clear h9 K9
    refine ok_seq fun K10 h10 => ?_
    refine ok_cond rfl (fun c11 => ?_) (fun c11 => ?_)
    · refine ok_skip (h10 _ ?_)
      have hk : k < r.nodes.length := by simpa using c11
      obtain ⟨n, hn⟩ : ∃ n, r.nodes[k]? = some n := ⟨_, List.getElem?_eq_getElem hk⟩
      obtain ⟨p, hp⟩ : ∃ p, 0 < k → r.nodes[k - 1]? = some p := ⟨r.nodes[k - 1]'(by omega), fun _ => List.getElem?_eq_getElem (by omega)⟩
      have hsn := hsm hn
      have hlt : (n.toks.map int).length = n.toks.length := by simp
      refine ok_seq fun K12 h12 => ?_
      refine ok_block ?_
      refine ok_seq fun K13 h13 => ok_region rfl (q_mv _ rfl (q_ia el29 rfl rfl (by omega) (mget hn) (q_lds _ ag45 rfl sz45 (q_alloc _ ze45 rfl rfl rfl rfl (q_as _ rfl (q_sts _ rfl rfl rfl sz45 (Nat.le_of_ble_eq_true rfl) rfl (run_nil (h13 _ ?_)))))))); clear h13 K13
      refine ok_seq fun K14 h14 => ?_
      refine ok_seq fun K15 h15 => ?_
      refine ok_region_i (by kernel_rfl) (by kernel_rfl) rfl (
        q_fap fd45_0 rfl (by decide) (q_ldb _ ag9 rfl rfl rfl (q_call (f195_ok n.id hsn.1) cl195 rfl rfl (q_un _ _ rfl rfl (q_mv _ rfl (q_or 14 4 rfl rfl rfl rfl rfl (fun hb50 =>
          q_mv _ rfl (q_bin _ _ _ rfl rfl rfl (q_mv _ rfl (q_and 10 10 rfl rfl rfl rfl rfl (fun hb49 =>
            q_fa _ fd31_1 rfl rfl (by decide) (q_ld _ ag29 rfl rfl (q_mv _ rfl (q_sub rfl rfl (by omega) (q_ia (s := eRingNode p) el29 rfl rfl (by have := of_decide_eq_true hb49; omega) (by rw [show ((k : Int) - 1).toNat = k - 1 by omega]; exact mget (hp (by have := of_decide_eq_true hb49; omega))) (q_fa _ fd45_0 rfl rfl (by decide) (
            q_ld _ ag9 rfl rfl (q_fap fd45_0 rfl (by decide) (q_ldb _ ag9 rfl rfl rfl (q_bin _ _ _ rfl rfl rfl (run_nil ⟨rfl, rfl, rfl, rfl⟩))))))))))) (
          run_nil ⟨rfl, rfl, rfl, rfl⟩))))) (
        q_mv _ rfl (q_or 3 3 rfl rfl rfl rfl rfl (fun hb55 =>
          q_fap fd45_1 rfl (by decide) (q_ldb _ ag3 rfl rfl rfl (q_bin _ _ _ rfl rfl rfl (run_nil ⟨rfl, rfl, rfl, rfl⟩)))) (
        q_mv _ rfl (q_or 3 3 rfl rfl rfl rfl rfl (fun hb60 =>
          q_fap fd45_1 rfl (by decide) (q_ldb _ ag3 rfl rfl rfl (q_bin _ _ _ rfl rfl rfl (run_nil ⟨rfl, rfl, rfl, rfl⟩)))) (
        q_mv _ rfl (q_or 4 4 rfl rfl rfl rfl rfl (fun hb66 =>
          q_fap fd45_2 rfl (by decide) (q_ldb _ ag40 rfl rfl rfl (q_len eS40 rfl (q_bin _ _ _ rfl rfl rfl (run_nil ⟨rfl, rfl, rfl, rfl⟩))))) (
        q_mv _ rfl (q_or 4 4 rfl rfl rfl rfl rfl (fun hb72 =>
          q_fap fd45_2 rfl (by decide) (q_ldb _ ag40 rfl rfl rfl (q_len eS40 rfl (q_bin _ _ _ rfl rfl rfl (run_nil ⟨rfl, rfl, rfl, rfl⟩))))) (
        q_mv _ rfl (q_or 4 4 rfl rfl rfl rfl rfl (fun hb78 =>
          q_fap fd45_2 rfl (by decide) (q_ldb _ ag40 rfl rfl rfl (q_call (f196_ok n.toks hsn.2) cl196 rfl rfl (q_un _ _ rfl rfl (run_nil ⟨rfl, rfl, rfl, rfl⟩))))) (
        run_nil (h15 _ ?_))))))))))))))))))
      clear h15 K15
      rw [hlt, cmpT_less]
      refine ok_cond rfl (fun c16 => ?_) (fun c16 => ?_)
      · refine ok_seq fun K17 h17 => ok_region rfl (q_as _ rfl (run_nil (h17 _ ?_)))
        refine ok_ret ⟨_, rfl, ?_⟩
        rw [pB_false]; · rfl
        rintro ⟨_, _, _, a4⟩
        obtain ⟨⟨b1, b2, b3, b4, b5, b6, b7⟩, b8, b9⟩ := a4 k n hn
        rw [b1, risB_true b6] at c16
        simp only [Bool.not_true, Bool.false_or, Bool.or_false, Bool.or_eq_true, Bool.and_eq_true, decide_eq_true_eq, Bool.not_eq_true', decide_eq_false_iff_not] at c16
        rcases c16 with (((⟨c, d⟩ | c) | c) | c) | c
        · exact d (b8 p (by omega) (hp (by omega)))
        all_goals omega
      · refine ok_skip (h14 _ ?_)
        simp only [Bool.or_eq_false_iff, Bool.not_eq_false', Bool.and_eq_false_iff, decide_eq_false_iff_not, decide_eq_true_eq] at c16
        obtain ⟨⟨⟨⟨⟨⟨b1, b8⟩, b2⟩, b3⟩, b4⟩, b5⟩, b6⟩ := c16
        have b6' : Ris n.toks := by simpa [risB] using b6
        have b8' : ∀ q, 0 < k → r.nodes[k - 1]? = some q → cmpT q.id.data.toList n.id.data.toList < 0 := by
          intro q h0 hq
          rw [hp h0] at hq
          cases hq
          rcases b8 with b8 | b8
          · omega
          · exact b8
        refine ok_seq fun K18 h18 => ok_region rfl (q_fap fd45_2 rfl (by decide) (q_ldb _ ag40 rfl rfl rfl (q_len eS40 rfl (q_mv _ rfl (run_nil (h18 _ ?_)))))); clear h18 K18
        rw [hlt]
        refine ok_block ?_
        refine ok_loop (fun (s : Nat × List (Int × Value)) => ⟨[(1, .sv (.ptr (eRing r))), (3, .own 22), (24, .sv (.sl 3 (r.nodes.map eRingNode))), (25, .sv (int r.nodes.length)), (26, .sv (int k)), (80, .sv (ints n.toks)), (81, .sv (int n.toks.length)), (82, .sv (int s.1))], [(22, .map .i64 s.2)]⟩)
          (fun s => (∀ i, i < s.1 → i < n.toks.length → 0 ≤ n.toks.getD i 0 ∧ n.toks.getD i 0 < 2147483648 ∧ ¬ Sn r k (n.toks.getD i 0)) ∧ MapIs s.2 (fun q => Sn r k q ∨ ∃ i, i < s.1 ∧ i < n.toks.length ∧ q = n.toks.getD i 0)) (fun s => n.toks.length - s.1) (0, es)
          ⟨fun i h => by simp at h, JM.to fun q => ⟨.inl, fun h => h.elim id fun ⟨i, h, _⟩ => by simp at h⟩⟩ (le_sub ⟨rfl, rfl, rfl, rfl, rfl, rfl, rfl, rfl, trivial⟩ ⟨rfl, trivial⟩) (fun s J2 => ?_)
        obtain ⟨m, es2⟩ := s
        obtain ⟨J2, JM2⟩ := J2
        simp only at J2 JM2
        refine ok_seq fun K19 h19 => ok_region rfl (q_bin _ _ _ rfl rfl rfl (run_nil (h19 _ ?_))); clear h19 K19
        refine ok_seq fun K20 h20 => ?_
        refine ok_cond rfl (fun c21 => ?_) (fun c21 => ?_)
        · refine ok_skip (h20 _ ?_)
          have hm : m < n.toks.length := by simpa using c21
          have hnt := hsn.2
          refine ok_seq fun K22 h22 => ?_
          refine ok_block ?_
          refine ok_seq fun K23 h23 => ok_region rfl (q_ia (s := int (n.toks.getD m 0)) el40 rfl rfl (by omega) (iget (iget' hm)) (q_ld _ ag3 rfl rfl (q_as _ rfl (run_nil (h23 _ ?_))))); clear h23 K23
          refine ok_seq fun K24 h24 => ?_
          refine ok_seq fun K25 h25 => ?_
          refine ok_region rfl (q_mv _ rfl (q_bin _ _ _ rfl rfl rfl (q_mv _ rfl (q_or 2 2 rfl rfl rfl rfl rfl (fun hb91 =>
              q_mv _ rfl (q_bin _ _ _ rfl rfl rfl (run_nil ⟨rfl, rfl, rfl, rfl⟩))) (
            q_mv _ rfl (q_or 3 3 rfl rfl rfl rfl rfl (fun hb96 =>
              q_mo _ rfl (q_mv _ rfl (q_mget _ _ mp209 ze4 rfl rfl rfl (JM2.get _) (run_nil ⟨rfl, rfl, rfl, rfl⟩)))) (
            run_nil (h25 _ ?_))))))))
          clear h25 K25
          refine ok_cond rfl (fun c26 => ?_) (fun c26 => ?_)
          · refine ok_seq fun K27 h27 => ok_region rfl (q_as _ rfl (run_nil (h27 _ ?_)))
            refine ok_ret ⟨_, rfl, ?_⟩
            rw [pB_false]; · rfl
            rintro ⟨_, _, _, a4⟩
            obtain ⟨⟨_, _, _, _, _, _, d7⟩, _, d9⟩ := a4 k n hn
            have hmem := List.mem_of_getElem? (iget' hm)
            have := d7 _ hmem
            simp only [Bool.or_eq_true, decide_eq_true_eq, pB] at c26
            rcases c26 with (c | c) | (⟨i, q, h1, h2, h3⟩ | ⟨i, h1, h2, h3⟩)
            · omega
            · omega
            · exact d9 i q h1 h2 _ hmem h3
            · have := ris_lt b6' h1 hm; omega
          · refine ok_skip (h24 _ ?_)
            simp only [Bool.or_eq_false_iff, decide_eq_false_iff_not] at c26
            obtain ⟨⟨e1, e2⟩, e3⟩ := c26
            have e3' : ¬ (Sn r k (n.toks.getD m 0) ∨ ∃ i, i < m ∧ i < n.toks.length ∧ n.toks.getD m 0 = n.toks.getD i 0) := by simpa [pB] using e3
            refine ok_last fun K30 h30 => ok_region rfl (q_mo _ rfl (q_mv _ rfl (q_mput _ mp209 rfl rfl rfl rfl (JM2.none e3) (run_nil (h30 _ (h22 _ ?_))))))
            refine ok_region rfl (q_add rfl rfl (by omega) (q_mv _ rfl (run_nil (⟨(m + 1, es2 ++ [(n.toks.getD m 0, .bool true)]), by simp only; omega, ⟨fun i h1 h2 => ?_, ?_⟩, le_sub ⟨rfl, rfl, rfl, rfl, rfl, rfl, rfl, rfl, trivial⟩ ⟨rfl, trivial⟩⟩))))
            · simp only at h1
              rcases Nat.lt_or_ge i m with h | h
              · exact J2 i h h2
              · obtain rfl : i = m := by omega
                exact ⟨by omega, by omega, fun h => e3' (.inl h)⟩
            · refine (JM2.put _).to fun q => ⟨?_, ?_⟩
              · rintro ((h | ⟨i, h1, h2, h3⟩) | rfl)
                · exact .inl h
                · exact .inr ⟨i, by simp only; omega, h2, h3⟩
                · exact .inr ⟨m, by simp only; omega, hm, rfl⟩
              · rintro (h | ⟨i, h1, h2, h3⟩)
                · exact .inl (.inl h)
                · simp only at h1
                  rcases Nat.lt_or_ge i m with h | h
                  · exact .inl (.inr ⟨i, h, h2, h3⟩)
                  · obtain rfl : i = m := by omega
                    exact .inr h3
        · refine ok_exit (h12 _ ?_)
          have hm : n.toks.length ≤ m := by simpa using c21
          have mem : ∀ t ∈ n.toks, ∃ i, i < n.toks.length ∧ t = n.toks.getD i 0 := by
            intro t ht
            obtain ⟨x, hx⟩ := List.getElem?_of_mem ht
            exact ⟨x, (List.getElem?_eq_some_iff.1 hx).1, by rw [List.getD_eq_getElem?_getD, hx]; rfl⟩
          refine ok_region rfl (q_add rfl rfl (by omega) (q_mv _ rfl (run_nil (⟨(k + 1, es2), by simp only; omega, ⟨fun i n' h1 hn' => ?_, ?_⟩, le_sub ⟨rfl, rfl, rfl, rfl, rfl, trivial⟩ ⟨rfl, trivial⟩⟩))))
          · simp only at h1
            rcases Nat.lt_or_ge i k with h | h
            · exact J i n' h hn'
            · obtain rfl : i = k := by omega
              rw [hn] at hn'; cases hn'
              refine ⟨⟨b1, by omega, by omega, by omega, by omega, b6', fun t ht => ?_⟩, b8', fun j q h1 hq t ht htq => ?_⟩
              · obtain ⟨x, hx, rfl⟩ := mem t ht
                have := J2 x (by omega) hx
                exact ⟨this.1, this.2.1⟩
              · obtain ⟨x, hx, rfl⟩ := mem t ht
                exact (J2 x (by omega) hx).2.2 ⟨j, q, h1, hq, htq⟩
          · refine JM2.to fun q => ⟨?_, ?_⟩
            · rintro (⟨i, p', h1, h2, h3⟩ | ⟨i, h1, h2, rfl⟩)
              · exact ⟨i, p', by simp only; omega, h2, h3⟩
              · exact ⟨k, n, by simp only; omega, hn, List.mem_of_getElem? (iget' h2)⟩
            · rintro ⟨i, p', h1, h2, h3⟩
              simp only at h1
              rcases Nat.lt_or_ge i k with h | h
              · exact .inl ⟨i, p', h, h2, h3⟩
              · obtain rfl : i = k := by omega
                rw [hn] at h2; cases h2
                obtain ⟨x, hx, rfl⟩ := mem q h3
                exact .inr ⟨x, by omega, hx, rfl⟩
    · refine ok_exit (h7 _ ?_)
      have hk : r.nodes.length ≤ k := by simpa using c11
      refine ok_seq fun K28 h28 => ok_region rfl (q_as _ rfl (run_nil (h28 _ ?_))); clear h28 K28
      refine ok_ret ⟨_, rfl, ?_⟩
      rw [pB_true]; · rfl
      exact ⟨by omega, by omega, by omega, fun i n hn => J i n (by have := (List.getElem?_eq_some_iff.1 hn).1; omega) hn⟩
end Go.Ring

/- The library's slices.SortFunc at tokens of a ring, at this program: the shelf's layings, in plain words; what the comparison says. No condition. -/
namespace Go.Proofs
open Go.Shelf
def Tryz.lays122_ren : Go.Shelf.Ren := ⟨fun | 122 => 157 | 215 => 210 | n => n, fun | 3 => 3 | 4 => 4 | n => n, fun | n => n⟩
theorem Tryz.lays122 : Go.Proofs.Lays.n122 Tryz.prog Tryz.lays122_ren := {
  mixed := by kernel_rfl
  f122 := Tryz.func157.trans (congrArg some (by kernel_rfl))
  f215 := Tryz.func210.trans (congrArg some (by kernel_rfl))
  t3 := Tryz.underlying3
  a3 := Tryz.isAgg3
  z3 := Tryz.sizeOf3
  v3 := Tryz.zeroValue3
  t4 := Tryz.underlying4
  a4 := Tryz.isAgg4
  z4 := Tryz.sizeOf4
  v4 := Tryz.zeroValue4 }
def Tryz.laysSortF_ren : Go.Shelf.Ren := ⟨fun | 6 => 155 | 15 => 209 | 14 => 208 | 28 => 252 | 29 => 253 | 20 => 244 | 21 => 245 | 22 => 246 | 23 => 247 | 24 => 248 | 25 => 249 | 26 => 250 | 27 => 251 | 46 => 265 | 47 => 266 | 48 => 267 | 49 => 268 | 50 => 269 | 57 => 278 | n => n, fun | 22 => 117 | 24 => 183 | 25 => 185 | 3 => 3 | 39 => 172 | 0 => 0 | 53 => 250 | 55 => 142 | 4 => 4 | 46 => 244 | 45 => 243 | 50 => 82 | 5 => 5 | 9 => 9 | 66 => 262 | 70 => 266 | 76 => 286 | 77 => 287 | n => n, fun | n => n⟩
theorem Tryz.laysSortF : Go.Proofs.SlLaysF0.n6 Tryz.prog Tryz.laysSortF_ren := {
  mixed := by kernel_rfl
  f6 := ⟨Tryz.f155.name, by decide, Tryz.func155.trans (congrArg some (by kernel_rfl))⟩
  f14 := ⟨Tryz.f208.name, by decide, Tryz.func208.trans (congrArg some (by kernel_rfl))⟩
  f15 := Tryz.func209.trans (congrArg some (by kernel_rfl))
  f20 := ⟨Tryz.f244.name, by decide, Tryz.func244.trans (congrArg some (by kernel_rfl))⟩
  f21 := ⟨Tryz.f245.name, by decide, Tryz.func245.trans (congrArg some (by kernel_rfl))⟩
  f22 := ⟨Tryz.f246.name, by decide, Tryz.func246.trans (congrArg some (by kernel_rfl))⟩
  f23 := ⟨Tryz.f247.name, by decide, Tryz.func247.trans (congrArg some (by kernel_rfl))⟩
  f24 := ⟨Tryz.f248.name, by decide, Tryz.func248.trans (congrArg some (by kernel_rfl))⟩
  f25 := ⟨Tryz.f249.name, by decide, Tryz.func249.trans (congrArg some (by kernel_rfl))⟩
  f26 := ⟨Tryz.f250.name, by decide, Tryz.func250.trans (congrArg some (by kernel_rfl))⟩
  f27 := ⟨Tryz.f251.name, by decide, Tryz.func251.trans (congrArg some (by kernel_rfl))⟩
  f28 := Tryz.func252.trans (congrArg some (by kernel_rfl))
  f29 := Tryz.func253.trans (congrArg some (by kernel_rfl))
  f46 := ⟨Tryz.f265.name, by decide, Tryz.func265.trans (congrArg some (by kernel_rfl))⟩
  f47 := Tryz.func266.trans (congrArg some (by kernel_rfl))
  f48 := Tryz.func267.trans (congrArg some (by kernel_rfl))
  f49 := ⟨Tryz.f268.name, by decide, Tryz.func268.trans (congrArg some (by kernel_rfl))⟩
  f50 := ⟨Tryz.f269.name, by decide, Tryz.func269.trans (congrArg some (by kernel_rfl))⟩
  f57 := ⟨Tryz.f278.name, by decide, Tryz.func278.trans (congrArg some (by kernel_rfl))⟩
  t0 := Tryz.underlying0
  a0 := Tryz.isAgg0
  z0 := Tryz.sizeOf0
  v0 := Tryz.zeroValue0
  t3 := Tryz.underlying3
  a3 := Tryz.isAgg3
  z3 := Tryz.sizeOf3
  v3 := Tryz.zeroValue3
  t4 := Tryz.underlying4
  a4 := Tryz.isAgg4
  z4 := Tryz.sizeOf4
  v4 := Tryz.zeroValue4
  t5 := Tryz.underlying5
  a5 := Tryz.isAgg5
  z5 := Tryz.sizeOf5
  v5 := Tryz.zeroValue5
  t9 := Tryz.underlying9
  a9 := Tryz.isAgg9
  z9 := Tryz.sizeOf9
  v9 := Tryz.zeroValue9
  t22 := Tryz.underlying117
  a22 := Tryz.isAgg117
  z22 := Tryz.sizeOf117
  v22 := Tryz.zeroValue117
  t25 := Tryz.underlying185
  a25 := Tryz.isAgg185
  z25 := Tryz.sizeOf185
  v25 := Tryz.zeroValue185
  t39 := Tryz.underlying172
  a39 := Tryz.isAgg172
  z39 := Tryz.sizeOf172
  v39 := Tryz.zeroValue172
  t45 := Tryz.underlying243
  a45 := Tryz.isAgg243
  z45 := Tryz.sizeOf243
  v45 := Tryz.zeroValue243
  t46 := Tryz.underlying244
  a46 := Tryz.isAgg244
  z46 := Tryz.sizeOf244
  v46 := Tryz.zeroValue244
  t50 := Tryz.underlying82
  a50 := Tryz.isAgg82
  z50 := Tryz.sizeOf82
  v50 := Tryz.zeroValue82
  t53 := Tryz.underlying250
  a53 := Tryz.isAgg250
  z53 := Tryz.sizeOf250
  v53 := Tryz.zeroValue250
  t55 := Tryz.underlying142
  a55 := Tryz.isAgg142
  z55 := Tryz.sizeOf142
  v55 := Tryz.zeroValue142
  t66 := Tryz.underlying262
  a66 := Tryz.isAgg262
  z66 := Tryz.sizeOf262
  v66 := Tryz.zeroValue262
  t70 := Tryz.underlying266
  a70 := Tryz.isAgg266
  z70 := Tryz.sizeOf266
  v70 := Tryz.zeroValue266
  t76 := Tryz.underlying286
  a76 := Tryz.isAgg286
  z76 := Tryz.sizeOf286
  v76 := Tryz.zeroValue286
  t77 := Tryz.underlying287
  a77 := Tryz.isAgg287
  z77 := Tryz.sizeOf287
  v77 := Tryz.zeroValue287 }
end Go.Proofs
namespace Go.Ring
open Go Go.RowKit Go.Eager Go.Abs Go.Proofs Go.Shelf Go.Lib Go.Sort
set_option maxHeartbeats 1000000 in
theorem cmpTok (x y : Int × Int) (W : World) : Calls Tryz.prog 156 #[.agg #[.int .i64 x.1, .int .i64 x.2], .agg #[.int .i64 y.1, .int .i64 y.2]] W fun e w' => e = .returned (.int .i64 (Lib.compareInt x.1 y.1)) ∧ ∃ q os', w' = grow (W.drewN q) os' := by
  have hcon := fun W' => Any.cmp_Compare_int Tryz.lays122 x.1 y.1 W'
  change ∀ W', Calls Tryz.prog 157 _ _ _ at hcon
  generalize Lib.compareInt x.1 y.1 = r at hcon ⊢
  go_enter Tryz.func156, Tryz.ntmps156
  go_wp2_with (go_at_call 157; refine (hcon _).mono ?_; rintro e w' ⟨rfl, rfl⟩)
  go_ret
  exact ⟨rfl, 0, _, by rw [alloc_eq_grow, alloc_eq_grow, grow_grow]; rfl⟩
theorem ltTok (x y : Int × Int) : ltOf (fun x y : Int × Int => Lib.compareInt x.1 y.1) x y = decide (x.1 < y.1) := by
  unfold ltOf Lib.compareInt
  by_cases h1 : x.1 < y.1
  · simp [h1]
  · by_cases h2 : y.1 < x.1 <;> simp [h1, h2]
theorem swoTok : SWO (ltOf fun x y : Int × Int => Lib.compareInt x.1 y.1) where
  irrefl x := by rw [ltTok]; simp
  trans x y z h1 h2 := by rw [ltTok] at *; simp at *; omega
  ntrans x y z h1 h2 := by rw [ltTok] at *; simp at *; omega
theorem f155_ok : SortsPairs Tryz.prog 155 156 := by
  intro blk off cap d w hH hblk hsz
  have eg : ∀ args w, (callFunc 156 args).run Tryz.prog w = .ok (.enter 156 args) w := enters_of Tryz.func156 (by kernel_rfl) rfl
  refine (AnyQ.slices_SortFunc Tryz.laysSortF 2 Tryz.isAgg183 Tryz.sizeOf183 encP (fun _ => rfl) (fun x v hv => by simp [encP] at hv; rcases hv with rfl | rfl <;> rfl) (fun x y => Lib.compareInt x.1 y.1) swoTok 156 #[] blk off cap d.toArray w eg (fun _ _ _ _ x y => cmpTok x y _) hH hblk (by simpa using hsz)).mono ?_
  rintro e w' ⟨he, d', n, os, ⟨hs1, _, hs2⟩, hso, hw⟩
  refine ⟨he, d'.toList, n, os, ?_, ?_, by rw [hw]⟩
  · have e1 : d'.extract 0 d.toArray.size = d' := by rw [← hs1]; exact Array.extract_size
    rw [e1, Array.extract_size] at hs2
    simpa using hs2
  · rw [List.pairwise_iff_getElem]
    intro i j hi hj hij
    have hi' : i < d'.size := by simpa using hi
    have hj' : j < d'.size := by simpa using hj
    have := hso i j (Nat.zero_le _) hij (by rw [← hs1]; exact hj')
    rw [getElem!_pos d' j hj', getElem!_pos d' i hi', ltTok] at this
    simp at this
    simpa using this
end Go.Ring
