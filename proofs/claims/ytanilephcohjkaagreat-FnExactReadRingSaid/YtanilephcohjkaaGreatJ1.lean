/- Series joined, of two samples at one time the greater: the plain law. No condition. -/
import Derived.Test.YtanilephcohjkaaGreatB5
set_option maxRecDepth 100000
set_option linter.unusedVariables false
set_option linter.unusedSimpArgs false
namespace Go.Ring
open Go Go.RowKit Go.Eager Go.Abs Go.Proofs
/-- Samples at rising times. -/
def SrtS (l : List Sample) : Prop := l.Pairwise fun x y => x.time < y.time
/-- The value at a time. -/
def vat (t : Int) : List Sample → Option Int
  | [] => none
  | s :: l => if s.time = t then some s.value else vat t l
theorem vat_gt {t : Int} : ∀ {l : List Sample}, (∀ x ∈ l, t < x.time) → vat t l = none
  | [], _ => rfl
  | s :: l, h => by
    unfold vat
    have := h s (List.mem_cons_self ..)
    rw [if_neg (by omega)]
    exact vat_gt fun x hx => h x (List.mem_cons_of_mem _ hx)
theorem vat_get {t : Int} : ∀ {l : List Sample} {v : Int}, vat t l = some v → ∃ x ∈ l, x.time = t ∧ x.value = v
  | [], v, h => by simp [vat] at h
  | s :: l, v, h => by
    unfold vat at h
    split at h
    · rename_i e; cases h; exact ⟨s, List.mem_cons_self .., e, rfl⟩
    · obtain ⟨x, hx, h1, h2⟩ := vat_get h; exact ⟨x, List.mem_cons_of_mem _ hx, h1, h2⟩
theorem srtS_ext : ∀ {l m : List Sample}, SrtS l → SrtS m → (∀ t, vat t l = vat t m) → l = m
  | [], [], _, _, _ => rfl
  | [], y :: m, _, _, h => by have := h y.time; simp [vat] at this
  | x :: l, [], _, _, h => by have := h x.time; simp [vat] at this
  | x :: l, y :: m, h1, h2, h => by
    obtain ⟨a1, a2⟩ := List.pairwise_cons.1 h1
    obtain ⟨b1, b2⟩ := List.pairwise_cons.1 h2
    have ht : x.time = y.time := by
      rcases Int.lt_trichotomy x.time y.time with c | c | c
      · exfalso
        have e := h x.time
        rw [vat_gt (l := y :: m) (fun z hz => by
          rcases List.mem_cons.1 hz with rfl | hz
          · exact c
          · have := b1 z hz; omega)] at e
        simp [vat] at e
      · exact c
      · exfalso
        have e := h y.time
        rw [vat_gt (l := x :: l) (fun z hz => by
          rcases List.mem_cons.1 hz with rfl | hz
          · exact c
          · have := a1 z hz; omega)] at e
        simp [vat] at e
    have hv : x.value = y.value := by
      have e := h x.time
      unfold vat at e
      rw [if_pos rfl, if_pos ht.symm] at e
      exact Option.some.inj e
    have hxy : x = y := by cases x; cases y; simp only at ht hv; subst ht hv; rfl
    subst hxy
    congr 1
    refine srtS_ext a2 b2 fun t => ?_
    by_cases c : t = x.time
    · subst c; rw [vat_gt a1, vat_gt b1]
    · have e := h t
      unfold vat at e
      rw [if_neg (fun c' => c c'.symm), if_neg (fun c' => c c'.symm)] at e
      exact e
theorem mg_mem {z : Sample} {a b : List Sample} (h : z ∈ mg a b) : z ∈ a ∨ z ∈ b := by
  induction a, b using mg.induct with
  | case1 b => rw [mg] at h; exact .inr h
  | case2 x a => rw [mg_nil] at h; exact .inl h
  | case3 x a y b hc ih =>
    rw [mg_lt hc] at h
    rcases List.mem_cons.1 h with rfl | h
    · exact .inl (List.mem_cons_self ..)
    · exact (ih h).imp (List.mem_cons_of_mem _) id
  | case4 x a y b h1 h2 ih =>
    rw [mg_eq h2] at h
    rcases List.mem_cons.1 h with rfl | h
    · exact .inl (List.mem_cons_self ..)
    · exact (ih h).imp (List.mem_cons_of_mem _) (List.mem_cons_of_mem _)
  | case5 x a y b h1 h2 ih =>
    rw [mg_gt (by omega)] at h
    rcases List.mem_cons.1 h with rfl | h
    · exact .inr (List.mem_cons_self ..)
    · exact (ih h).imp id (List.mem_cons_of_mem _)
theorem mg_srt {a b : List Sample} (ha : SrtS a) (hb : SrtS b) : SrtS (mg a b) := by
  unfold SrtS at *
  induction a, b using mg.induct with
  | case1 b => rw [mg]; exact hb
  | case2 x a => rw [mg_nil]; exact ha
  | case3 x a y b hc ih =>
    obtain ⟨a1, a2⟩ := List.pairwise_cons.1 ha
    obtain ⟨b1, b2⟩ := List.pairwise_cons.1 hb
    rw [mg_lt hc, List.pairwise_cons]
    refine ⟨fun z hz => ?_, ih a2 hb⟩
    rcases mg_mem hz with hz | hz
    · exact a1 z hz
    · rcases List.mem_cons.1 hz with rfl | hz
      · exact hc
      · have := b1 z hz; omega
  | case4 x a y b h1 h2 ih =>
    obtain ⟨a1, a2⟩ := List.pairwise_cons.1 ha
    obtain ⟨b1, b2⟩ := List.pairwise_cons.1 hb
    rw [mg_eq h2, List.pairwise_cons]
    refine ⟨fun z hz => ?_, ih a2 b2⟩
    rcases mg_mem hz with hz | hz
    · exact a1 z hz
    · have := b1 z hz; omega
  | case5 x a y b h1 h2 ih =>
    obtain ⟨a1, a2⟩ := List.pairwise_cons.1 ha
    obtain ⟨b1, b2⟩ := List.pairwise_cons.1 hb
    rw [mg_gt (by omega), List.pairwise_cons]
    refine ⟨fun z hz => ?_, ih ha b2⟩
    rcases mg_mem hz with hz | hz
    · rcases List.mem_cons.1 hz with rfl | hz
      · omega
      · have := a1 z hz; omega
    · exact b1 z hz
theorem vat_mg {t : Int} {a b : List Sample} (ha : SrtS a) (hb : SrtS b) : vat t (mg a b) = (vat t a).or (vat t b) := by
  unfold SrtS at *
  induction a, b using mg.induct with
  | case1 b => rw [mg]; simp [vat]
  | case2 x a => rw [mg_nil]; simp [vat]
  | case3 x a y b hc ih =>
    obtain ⟨a1, a2⟩ := List.pairwise_cons.1 ha
    rw [mg_lt hc]
    simp only [vat]
    split
    · simp
    · have := ih a2 hb
      simp only [vat] at this
      exact this
  | case4 x a y b h1 h2 ih =>
    obtain ⟨a1, a2⟩ := List.pairwise_cons.1 ha
    obtain ⟨b1, b2⟩ := List.pairwise_cons.1 hb
    rw [mg_eq h2]
    simp only [vat]
    split
    · simp
    · rw [if_neg (by omega)]
      exact ih a2 b2
  | case5 x a y b h1 h2 ih =>
    obtain ⟨a1, a2⟩ := List.pairwise_cons.1 ha
    obtain ⟨b1, b2⟩ := List.pairwise_cons.1 hb
    rw [mg_gt (by omega)]
    by_cases hy : y.time = t
    · rw [vat_gt (l := x :: a) (fun z hz => by
        rcases List.mem_cons.1 hz with rfl | hz
        · omega
        · have := a1 z hz; omega)]
      simp [vat, hy]
    · rw [show vat t (y :: mg (x :: a) b) = vat t (mg (x :: a) b) by rw [vat, if_neg hy], show vat t (y :: b) = vat t b by rw [vat, if_neg hy]]
      exact ih ha b2
/-- A sample, raised to what another row has at its time. -/
def gB (b : List Sample) (x : Sample) : Sample := match vat x.time b with | some v => ⟨x.time, if x.value < v then v else x.value⟩ | none => x
theorem gB_time (b : List Sample) (x : Sample) : (gB b x).time = x.time := by unfold gB; split <;> rfl
/-- Two rows of samples joined: of two at one time the greater. -/
def grM (a b : List Sample) : List Sample := (mg a b).map (gB b)
theorem grM_len (a b : List Sample) : (grM a b).length ≤ a.length + b.length := by unfold grM; rw [List.length_map]; exact mg_len a b
theorem map_srt {l b : List Sample} (h : SrtS l) : SrtS (l.map (gB b)) := by
  unfold SrtS at *
  rw [List.pairwise_map]
  exact h.imp fun h => by rw [gB_time, gB_time]; exact h
theorem grM_srt {a b : List Sample} (ha : SrtS a) (hb : SrtS b) : SrtS (grM a b) := map_srt (mg_srt ha hb)
theorem vat_map {t : Int} (b : List Sample) : ∀ l : List Sample, vat t (l.map (gB b)) = (vat t l).map fun v => match vat t b with | some w => if v < w then w else v | none => v
  | [] => rfl
  | x :: l => by
    simp only [List.map_cons, vat, gB_time]
    split
    · rename_i e
      subst e
      unfold gB
      cases vat x.time b <;> rfl
    · exact vat_map b l
/-- Of two values the greater, if there are two. -/
def omx : Option Int → Option Int → Option Int
  | none, y => y
  | some v, none => some v
  | some v, some w => some (if v < w then w else v)
theorem vat_grM {t : Int} {a b : List Sample} (ha : SrtS a) (hb : SrtS b) : vat t (grM a b) = omx (vat t a) (vat t b) := by
  unfold grM
  rw [vat_map, vat_mg ha hb]
  cases vat t a <;> cases vat t b <;> simp [omx]
theorem grM_nil {b : List Sample} (hb : SrtS b) : grM [] b = b :=
  srtS_ext (grM_srt (by unfold SrtS; exact List.Pairwise.nil) hb) hb fun t => by rw [vat_grM (by unfold SrtS; exact List.Pairwise.nil) hb]; rfl
/-- One series joined to a row of series. -/
def insJ : List Series → Series → List Series
  | [], u => [u]
  | x :: l, u => if cmpLs x.labels u.labels < 0 then x :: insJ l u else if cmpLs x.labels u.labels = 0 then ⟨x.labels, grM x.samples u.samples⟩ :: l else u :: x :: l
theorem insJ_fnd : ∀ {acc : List Series} {u x : Series}, fnd u.labels acc = true → acc[lowI u.labels acc]? = some x → insJ acc u = acc.set (lowI u.labels acc) ⟨x.labels, grM x.samples u.samples⟩
  | [], u, x, _, hx => by simp at hx
  | y :: l, u, x, h, hx => by
    unfold fnd at h
    unfold insJ
    by_cases c : cmpLs y.labels u.labels < 0
    · have e : lowI u.labels (y :: l) = lowI u.labels l + 1 := by rw [lowI, if_pos c]
      rw [if_pos c, e, List.set_cons_succ]
      rw [e, List.getElem?_cons_succ] at h hx
      rw [insJ_fnd (acc := l) (u := u) (x := x) (by unfold fnd; exact h) hx]
    · have e : lowI u.labels (y :: l) = 0 := by rw [lowI, if_neg c]
      rw [e] at h hx
      simp at h hx
      subst hx
      rw [if_neg c, if_pos h, e, List.set_cons_zero]
theorem insJ_new : ∀ {acc : List Series} {u : Series}, fnd u.labels acc = false → insJ acc u = insAt acc (lowI u.labels acc) u
  | [], u, _ => rfl
  | y :: l, u, h => by
    unfold fnd at h
    unfold insJ
    by_cases c : cmpLs y.labels u.labels < 0
    · have e : lowI u.labels (y :: l) = lowI u.labels l + 1 := by rw [lowI, if_pos c]
      rw [e, List.getElem?_cons_succ] at h
      rw [if_pos c, e, insJ_new (acc := l) (u := u) (by unfold fnd; exact h)]
      rfl
    · have e : lowI u.labels (y :: l) = 0 := by rw [lowI, if_neg c]
      rw [e] at h
      simp at h
      rw [if_neg c, if_neg h, e]
      rfl
/-- Series joined. -/
def jn (a b : List Series) : List Series := b.foldl insJ a
theorem jn_step {a b : List Series} {k : Nat} {u : Series} (hu : b[k]? = some u) : jn a (b.take (k + 1)) = insJ (jn a (b.take k)) u := by
  unfold jn
  rw [List.take_add_one, hu, Option.toList_some, List.foldl_append]
  rfl
/-- Ordered by labels, each ahead of all behind. -/
def SrtL (l : List Series) : Prop := l.Pairwise fun x y => cmpLs x.labels y.labels < 0
theorem srtL_iff {l : List Series} : SrtL l ↔ Srt l := by
  unfold SrtL
  rw [List.pairwise_iff_getElem]
  constructor
  · intro h i j x y hij hx hy
    obtain ⟨h1, rfl⟩ := List.getElem?_eq_some_iff.1 hx
    obtain ⟨h2, rfl⟩ := List.getElem?_eq_some_iff.1 hy
    exact h i j h1 h2 hij
  · intro h i j hi hj hij
    exact h i j _ _ hij (List.getElem?_eq_getElem hi) (List.getElem?_eq_getElem hj)
/-- All samples at rising times. -/
def SmS (l : List Series) : Prop := ∀ y ∈ l, SrtS y.samples
theorem insJ_mem : ∀ {acc : List Series} {u s : Series}, s ∈ insJ acc u → s ∈ acc ∨ s = u ∨ ∃ x ∈ acc, s = ⟨x.labels, grM x.samples u.samples⟩ ∧ x.labels = u.labels
  | [], u, s, h => by simp [insJ] at h; exact .inr (.inl h)
  | x :: l, u, s, h => by
    unfold insJ at h
    split at h
    · rcases List.mem_cons.1 h with rfl | h
      · exact .inl (List.mem_cons_self ..)
      · rcases insJ_mem h with h | h | ⟨y, hy, h⟩
        · exact .inl (List.mem_cons_of_mem _ h)
        · exact .inr (.inl h)
        · exact .inr (.inr ⟨y, List.mem_cons_of_mem _ hy, h⟩)
    · split at h
      · rename_i c
        rcases List.mem_cons.1 h with rfl | h
        · exact .inr (.inr ⟨x, List.mem_cons_self .., rfl, (cmpLs_zero _ _).1 c⟩)
        · exact .inl (List.mem_cons_of_mem _ h)
      · rcases List.mem_cons.1 h with rfl | h
        · exact .inr (.inl rfl)
        · exact .inl h
theorem insJ_srt : ∀ {acc : List Series} {u : Series}, SrtL acc → SrtL (insJ acc u)
  | [], u, _ => by simp [insJ, SrtL]
  | x :: l, u, h => by
    obtain ⟨h1, h2⟩ := List.pairwise_cons.1 h
    unfold insJ
    split
    · rename_i c
      refine List.pairwise_cons.2 ⟨fun s hs => ?_, insJ_srt h2⟩
      rcases insJ_mem hs with hs | rfl | ⟨y, hy, rfl, _⟩
      · exact h1 s hs
      · exact c
      · exact h1 y hy
    · split
      · exact List.pairwise_cons.2 ⟨fun s hs => h1 s hs, h2⟩
      · rename_i c1 c2
        have c3 : cmpLs u.labels x.labels < 0 := by have := cmpLs_neg x.labels u.labels; omega
        refine List.pairwise_cons.2 ⟨fun s hs => ?_, h⟩
        rcases List.mem_cons.1 hs with rfl | hs
        · exact c3
        · exact cmpLs_trans _ _ _ c3 (h1 s hs)
theorem insJ_sm {acc : List Series} {u : Series} (h : SmS acc) (hu : SrtS u.samples) : SmS (insJ acc u) := fun s hs => by
  rcases insJ_mem hs with hs | rfl | ⟨y, hy, rfl, _⟩
  · exact h s hs
  · exact hu
  · exact grM_srt (h y hy) hu
theorem insJ_lb {acc : List Series} {u : Series} (h : LbOk acc) (hu : u.labels.length ≤ 1048576 ∧ ∀ z ∈ u.labels, SLabel z) : LbOk (insJ acc u) := fun s hs => by
  rcases insJ_mem hs with hs | rfl | ⟨y, hy, rfl, _⟩
  · exact h s hs
  · exact hu
  · exact h y hy
theorem insJ_wt : ∀ (acc : List Series) (u : Series), wt (insJ acc u) ≤ wt acc + (u.samples.length + 1)
  | [], u => by simp [insJ, wt]
  | x :: l, u => by
    have ih := insJ_wt l u
    have hg := grM_len x.samples u.samples
    unfold insJ
    split
    · simp only [wt]; omega
    · split <;> simp only [wt] <;> omega
theorem jn_inv (b : List Series) : ∀ (a : List Series), SrtL a → SmS a → LbOk a → SmS b → LbOk b → SrtL (jn a b) ∧ SmS (jn a b) ∧ LbOk (jn a b) ∧ wt (jn a b) ≤ wt a + wt b := by
  induction b with
  | nil => exact fun a h1 h2 h3 _ _ => ⟨h1, h2, h3, Nat.le_refl _⟩
  | cons u b ih =>
    intro a h1 h2 h3 h4 h5
    obtain ⟨k1, k2, k3, k4⟩ := ih (insJ a u) (insJ_srt h1) (insJ_sm h2 (h4 u (List.mem_cons_self ..))) (insJ_lb h3 (h5 u (List.mem_cons_self ..))) (fun y hy => h4 y (List.mem_cons_of_mem _ hy)) (fun y hy => h5 y (List.mem_cons_of_mem _ hy))
    have e : jn a (u :: b) = jn (insJ a u) b := rfl
    rw [e]
    refine ⟨k1, k2, k3, ?_⟩
    have := insJ_wt a u
    simp only [wt]
    omega
open Classical in
/-- The samples under labels. -/
noncomputable def lk (t : List Label) : List Series → Option (List Sample)
  | [] => none
  | s :: l => if s.labels = t then some s.samples else lk t l
/-- Two rows of samples joined, if there are two. -/
def op2 : Option (List Sample) → Option (List Sample) → Option (List Sample)
  | none, y => y
  | some p, none => some p
  | some p, some q => some (grM p q)
theorem srtL_filter {l : List Series} (h : SrtL l) (f : Series → Bool) : SrtL (l.filter f) := List.Pairwise.filter f h
end Go.Ring
