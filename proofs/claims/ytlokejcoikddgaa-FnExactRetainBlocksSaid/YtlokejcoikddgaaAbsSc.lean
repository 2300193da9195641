/- '||' and '&&' over plain values: one way on, with the truth of both. No condition. -/
import Derived.Test.YtlokejcoikddgaaAbsRun
namespace Go.Abs
open Go Go.RowKit Go.Eager

theorem wpP_app {P : Program} {ops : Array Oper} {Q : Act → World → Prop} : ∀ {l1 l2 : List (Oper × Nat)} {a : Act} {w : World}, wpP P ops (fun a w => wpP P ops Q l2 a w) l1 a w → wpP P ops Q (l1 ++ l2) a w
  | [], _, _, _, h => h
  | (o, c) :: l1, l2, a, w, h => by
    rw [List.cons_append]
    unfold wpP at h ⊢
    split
    · rename_i hc
      rw [if_pos hc] at h
      obtain ⟨v, h1, h2⟩ := h
      exact ⟨v, h1, wpP_app h2⟩
    · rename_i hc
      rw [if_neg hc] at h
      split
      · rename_i hw; rw [if_pos hw] at h
        exact oN_mono (fun v w' hk => ⟨hk.1, wpP_app hk.2⟩) h
      · rename_i hw; rw [if_neg hw] at h
        exact wpP_app h

theorem wpP_mono {P : Program} {ops : Array Oper} {Q Q' : Act → World → Prop} (hq : ∀ a w, Q a w → Q' a w) : ∀ {l : List (Oper × Nat)} {a : Act} {w : World}, wpP P ops Q l a w → wpP P ops Q' l a w
  | [], _, _, h => hq _ _ h
  | (o, c) :: l, a, w, h => by
    unfold wpP at h ⊢
    split
    · rename_i hc
      rw [if_pos hc] at h
      obtain ⟨v, h1, h2⟩ := h
      exact ⟨v, h1, wpP_mono hq h2⟩
    · rename_i hc
      rw [if_neg hc] at h
      split
      · rename_i hw; rw [if_pos hw] at h
        exact oN_mono (fun v w' hk => ⟨hk.1, wpP_mono hq hk.2⟩) h
      · rename_i hw; rw [if_neg hw] at h
        exact wpP_mono hq h

/-- All are guarded: by this guard, or by an operation among them; 'ds': the slots that those ahead write. -/
def guardedBy (ops : Array Oper) (g : Nat) (want : Bool) : List Nat → List (Oper × Nat) → Bool
  | _, [] => true
  | ds, (o, _) :: l => (match o.guard with | some (g', w) => (g' == g && w == want) || (match (ops[g']?).bind (·.dst) with | some t => ds.contains t | none => false) | none => false) && guardedBy ops g want (match o.dst with | some d => d :: ds | none => ds) l
/-- Without this guard. -/
def unguard (g : Nat) (want : Bool) (l : List (Oper × Nat)) : List (Oper × Nat) := l.map fun p => (match p.1.guard with | some (g', w) => if g' == g && w == want then { p.1 with guard := none } else p.1 | none => p.1, p.2)
def freshT : List (Oper × Nat) → List (Nat × LV) → Bool
  | [], _ => true
  | (o, _) :: l, t => (match o.dst with | some d => (t.lookup d).isNone | none => true) && freshT l t
def freshB : Nat → List (Nat × LV) → Bool
  | 0, _ => true
  | m + 1, (k, _) :: t => (t.lookup k).isNone && freshB m t
  | _ + 1, [] => false
def SubT (t t' : List (Nat × LV)) : Prop := ∀ k lv, t.lookup k = some lv → t'.lookup k = some lv
theorem SubT.refl (t : List (Nat × LV)) : SubT t t := fun _ _ h => h
theorem SubT.cons {t t' : List (Nat × LV)} (h : SubT t t') {k : Nat} (hk : t.lookup k = none) (lv : LV) : SubT t ((k, lv) :: t') := by
  intro k' lv' h'
  rw [List.lookup_cons]
  by_cases hkk : k' = k
  · subst hkk; rw [hk] at h'; cases h'
  · have : (k' == k) = false := by simpa using hkk
    simp only [this]; exact h k' lv' h'
theorem SubT.both {t t' : List (Nat × LV)} (h : SubT t t') (k : Nat) (lv : LV) : SubT ((k, lv) :: t) ((k, lv) :: t') := by
  intro k' lv' h'
  rw [List.lookup_cons] at h' ⊢
  split
  · rename_i hk; rw [hk] at h'; exact h'
  · rename_i hk; rw [hk] at h'; exact h k' lv' h'
theorem freshB_spec : ∀ (m : Nat) (t : List (Nat × LV)), freshB m t = true → SubT (t.drop m) t
  | 0, t, _ => SubT.refl t
  | m + 1, [], h => by simp [freshB] at h
  | m + 1, (k, lv) :: t, h => by
    simp only [freshB, Bool.and_eq_true, Option.isNone_iff_eq_none] at h
    have ih := freshB_spec m t h.2
    rw [List.drop_succ_cons]
    refine ih.cons ?_ lv
    cases hl : (t.drop m).lookup k with
    | none => rfl
    | some x => have := ih k x hl; rw [h.1] at this; cases this

section
variable {Γ : Ctx} {ops : Array Oper} {t : List (Nat × LV)} {h : List (Nat × Ent)} {K : St → Prop}

/-- The guarded operations, all passed over. -/
theorem skip_all {g tg : Nat} {want b : Bool} (hgd : (ops[g]?).bind (·.dst) = some tg) (hb : b ≠ want) : ∀ (l1 : List (Oper × Nat)) (ds : List Nat) (t' : List (Nat × LV)), SubT t t' → (∀ d ∈ ds, t'.lookup d = some (.sv (.raw undef))) → St.ev ⟨t, h⟩ (.tmp tg) = .sv (.raw (.bool b)) → guardedBy ops g want ds l1 = true → freshT l1 t = true → (t.lookup tg).isSome = true →
    (∀ t'', SubT t t'' → K ⟨t'', h⟩) → RunL Γ ops l1 ⟨t', h⟩ K
  | [], _, t', hs, _, _, _, _, _, hK => run_nil (hK t' hs)
  | (o, c) :: l1, ds, t', hs, hds, ht, hg, hf, hsome, hK => by
    simp only [guardedBy, freshT, Bool.and_eq_true] at hg hf
    have next : RunL Γ ops l1 (St.put ⟨t', h⟩ o.dst (.sv (.raw undef))) K := by
      cases hd : o.dst with
      | none =>
        simp only [St.put]
        rw [hd] at hg
        exact skip_all hgd hb l1 ds t' hs hds ht hg.2 hf.2 hsome hK
      | some d =>
        simp only [St.put]
        rw [hd] at hf hg
        simp only [Option.isNone_iff_eq_none] at hf
        refine skip_all hgd hb l1 (d :: ds) _ (hs.cons hf.1 _) (fun d' hd' => ?_) ht hg.2 hf.2 hsome hK
        rw [List.lookup_cons]
        by_cases hdd : d' = d
        · subst hdd; simp
        · have hbd : (d' == d) = false := by simpa using hdd
          simp only [hbd]
          exact hds d' ((List.mem_cons.1 hd').resolve_left hdd)
    cases hog : o.guard with
    | none => rw [hog] at hg; simp at hg
    | some gw =>
      obtain ⟨g', w'⟩ := gw
      rw [hog] at hg
      simp only [Bool.or_eq_true, Bool.and_eq_true, beq_iff_eq] at hg
      rcases hg.1 with ⟨rfl, rfl⟩ | hg1
      · have ht' : St.ev ⟨t', h⟩ (.tmp tg) = .sv (.raw (.bool b)) := by
          simp only [St.ev] at ht ⊢
          cases hl : t.lookup tg with
          | none => rw [hl] at hsome; cases hsome
          | some lv => rw [hl] at ht; rw [hs tg lv hl]; exact ht
        exact run_guard hog hgd ht' (fun he => absurd he hb) fun _ => next
      · split at hg1
        · rename_i t2 ht2
          have hm : t2 ∈ ds := by simpa using hg1
          exact run_guard_undef hog ht2 (by simp only [St.ev, hds t2 hm]; rfl) next
        · cases hg1

theorem RunL.app {l1 l2 : List (Oper × Nat)} {σ : St} (hr : RunL Γ ops l1 σ fun σ' => RunL Γ ops l2 σ' K) : RunL Γ ops (l1 ++ l2) σ K := by
  intro hd a w I
  simp only [List.all_append, Bool.and_eq_true] at hd
  exact wpP_app (wpP_mono (fun a' w' ⟨σ', h1, h2⟩ => h1 hd.2 a' w' h2) (hr hd.1 a w I))

theorem run_guarded {g tg : Nat} {want b : Bool} (hgd : (ops[g]?).bind (·.dst) = some tg) (hb : b = want) : ∀ (l1 : List (Oper × Nat)) (a : Act) (w : World),
    a.tmps.getD tg undef = .bool b → (∀ p ∈ l1, p.1.dst ≠ some tg) → ∀ {Q : Act → World → Prop}, wpP Γ.P ops Q (unguard g want l1) a w → wpP Γ.P ops Q l1 a w
  | [], _, _, _, _, _, h => h
  | (o, c) :: l1, a, w, hv, hd, Q, hw => by
    have next : ∀ (v : Value) (w1 : World), wpP Γ.P ops Q (unguard g want l1) (a.put o.dst v) w1 → wpP Γ.P ops Q l1 (a.put o.dst v) w1 := fun v w1 h => by
      refine run_guarded hgd hb l1 (a.put o.dst v) w1 ?_ (fun p hp => hd p (by simp [hp])) h
      have hne := hd (o, c) (by simp)
      cases hdst : o.dst with
      | none => exact hv
      | some d =>
        have hdt : d ≠ tg := fun e => hne (by rw [hdst, e])
        simp only [Act.put]
        rw [Array.getD_eq_getD_getElem?, Array.getElem?_setIfInBounds_ne hdt, ← Array.getD_eq_getD_getElem?]
        exact hv
    simp only [unguard, List.map_cons] at hw
    by_cases hog : o.guard = some (g, want)
    · have hv' : a.tmps[tg]?.getD undef = .bool b := by rw [← Array.getD_eq_getD_getElem?]; exact hv
      have hv2 : a.tmps[tg]? = some (.bool b) := by
        cases ht : a.tmps[tg]? with
        | none => rw [ht] at hv'; simp [undef] at hv'
        | some u => rw [ht] at hv'; simp at hv'; rw [hv']
      have hwt : Region.wanted o (yielded ops a.tmps) = true := by simp [Region.wanted, hog, yielded, hgd, hv2, hb]
      have hwu : ∀ t : Array Value, Region.wanted { o with guard := none } (yielded ops t) = true := fun t => wanted_none rfl _
      simp only [hog, BEq.rfl, Bool.and_self, if_true] at hw
      unfold wpP at hw ⊢
      split
      · rename_i hc
        rw [if_pos hc] at hw
        obtain ⟨v, h4, h5⟩ := hw
        refine ⟨v, ?_, next v w h5⟩
        rcases h4 with ⟨_, h4⟩ | ⟨h4, _⟩
        · exact .inl ⟨hwt, h4⟩
        · rw [hwu] at h4; cases h4
      · rename_i hc
        rw [if_neg hc, if_pos (hwu _)] at hw
        try rw [if_pos hwt]
        exact oN_mono (fun v w1 hk => ⟨hk.1, next v w1 hk.2⟩) hw
    · have ho : (match o.guard with | some (g', w) => if g' == g && w == want then ({ o with guard := none } : Oper) else o | none => o) = o := by
        cases hg : o.guard with
        | none => rfl
        | some gw =>
          obtain ⟨g', w'⟩ := gw
          have : (g' == g && w' == want) = false := by
            rw [Bool.and_eq_false_iff]
            by_cases h1 : g' = g
            · right; have : w' ≠ want := fun h2 => hog (by rw [hg, h1, h2]); simpa using this
            · left; simpa using h1
          simp [this]
      rw [ho] at hw
      unfold wpP at hw ⊢
      split
      · rename_i hc
        rw [if_pos hc] at hw
        obtain ⟨v, h4, h5⟩ := hw
        exact ⟨v, h4, next v w h5⟩
      · rename_i hc
        rw [if_neg hc] at hw
        split
        · rename_i hwt
          rw [if_pos hwt] at hw
          exact oN_mono (fun v w1 hk => ⟨hk.1, next v w1 hk.2⟩) hw
        · rename_i hwt
          rw [if_neg hwt] at hw
          exact next undef w hw

theorem freshT_ne {tg : Nat} : ∀ {l1 : List (Oper × Nat)}, freshT l1 t = true → (t.lookup tg).isSome = true → ∀ p ∈ l1, p.1.dst ≠ some tg
  | [], _, _, p, hp => by cases hp
  | (o, c) :: l1, hf, hs, p, hp => by
    simp only [freshT, Bool.and_eq_true] at hf
    rcases List.mem_cons.1 hp with rfl | hp
    · intro he
      rw [he] at hf
      simp only [Option.isNone_iff_eq_none] at hf
      rw [hf.1] at hs; cases hs
    · exact freshT_ne hf.2 hs p hp

theorem q_sc {g tg tp ty c m : Nat} {want b1 b2 : Bool} {x y : Operand} {ps : String} {af : Array Edge} {l1 rest : List (Oper × Nat)} (hgd : (ops[g]?).bind (·.dst) = some tg)
    (ht : St.ev ⟨t, h⟩ (.tmp tg) = .sv (.raw (.bool b1))) (hok : (guardedBy ops g want [] l1 && freshT l1 t && (t.lookup tg).isSome) = true)
    (hrun : b1 = want → RunL Γ ops (unguard g want l1) ⟨t, h⟩ fun σ' => σ'.h = h ∧ freshB m σ'.t = true ∧ σ'.t.drop m = t ∧ (if b1 then σ'.ev x else σ'.ev y) = .sv (.raw (.bool b2)))
    (hskip : b1 ≠ want → ∀ σ' : St, (if b1 then σ'.ev x else σ'.ev y) = .sv (.raw (.bool b1)))
    (hk : RunL Γ ops rest ⟨(tp, .sv (.raw (.bool (if b1 = want then b2 else b1)))) :: t, h⟩ K) :
    RunL Γ ops (l1 ++ (⟨some tp, .pick (.tmp tg) x y, ty, ps, af, none⟩, c) :: rest) ⟨t, h⟩ K := by
  simp only [Bool.and_eq_true] at hok
  obtain ⟨⟨hg, hf⟩, hsome⟩ := hok
  have pickOk : ∀ (t' : List (Nat × LV)) (b : Bool), SubT t t' → (if b1 then St.ev ⟨t', h⟩ x else St.ev ⟨t', h⟩ y) = .sv (.raw (.bool b)) → (if b1 = want then b2 else b1) = b →
      RunL Γ ops ((⟨some tp, .pick (.tmp tg) x y, ty, ps, af, none⟩, c) :: rest) ⟨t', h⟩ K := by
    intro t' b hs hxy hb
    have ht' : St.ev ⟨t', h⟩ (.tmp tg) = .sv (.raw (.bool b1)) := by
      simp only [St.ev] at ht ⊢
      cases hl : t.lookup tg with
      | none => rw [hl] at hsome; cases hsome
      | some lv => rw [hl] at ht; rw [hs tg lv hl]; exact ht
    have fin : RunL Γ ops rest ⟨(tp, .sv (.raw (.bool b))) :: t', h⟩ K := by
      rw [hb] at hk
      intro hd a w ⟨ρ, I⟩
      exact hk hd a w ⟨ρ, I.sub (hs.both tp _) (fun _ _ h => h)⟩
    refine q_pick ht' rfl rfl (fun hb1 => ?_) (fun hb1 => ?_)
    · rw [hb1] at hxy; simp only [if_true] at hxy; rw [hxy]; exact fin
    · rw [hb1] at hxy; simp only [Bool.false_eq_true, if_false] at hxy; rw [hxy]; exact fin
  by_cases hb : b1 = want
  · intro hd a w I
    simp only [List.all_append, Bool.and_eq_true] at hd
    have hun : ((unguard g want l1).all fun p => dstOk Γ p.1) = true := by
      rw [unguard, List.all_map]
      rw [List.all_eq_true] at hd ⊢
      intro p hp
      have := hd.1 p hp
      simp only [Function.comp]
      cases hg : p.1.guard with
      | none => exact this
      | some gw => obtain ⟨g', w'⟩ := gw; simp only; split <;> exact this
    have h1 := hrun hb hun a w I
    obtain ⟨ρ, I'⟩ := I
    refine wpP_app (run_guarded hgd hb l1 a w (ev_raw I' ht) (fun p hp => freshT_ne hf hsome p hp) (wpP_mono ?_ h1))
    rintro a' w' ⟨⟨t', h'⟩, ⟨e1, e2, e3, e4⟩, J⟩
    simp only at e1 e2 e3
    subst e1
    have hs : SubT t t' := by rw [← e3]; exact freshB_spec m t' e2
    exact pickOk t' b2 hs e4 (if_pos hb) hd.2 a' w' J
  · refine RunL.app (skip_all hgd hb l1 [] t (SubT.refl t) (fun d hd => by cases hd) ht hg hf hsome fun t'' hs => ?_)
    exact pickOk t'' b1 hs (hskip hb ⟨t'', h⟩) (if_neg hb)

/-- 'b1 || b2': n operations are guarded. -/
theorem q_or (n m : Nat) {g tg tp ty c : Nat} {b1 b2 : Bool} {y : Operand} {ps : String} {af : Array Edge} {l rest : List (Oper × Nat)} (hl : l.drop n = (⟨some tp, .pick (.tmp tg) (.const (.bool true)) y, ty, ps, af, none⟩, c) :: rest) (_hg : l.head?.bind (fun p => p.1.guard) = some (g, false)) (hgd : (ops[g]?).bind (·.dst) = some tg)
    (ht : St.ev ⟨t, h⟩ (.tmp tg) = .sv (.raw (.bool b1))) (hok : (guardedBy ops g false [] (l.take n) && freshT (l.take n) t && (t.lookup tg).isSome) = true)
    (hrun : b1 = false → RunL Γ ops (unguard g false (l.take n)) ⟨t, h⟩ fun σ' => σ'.h = h ∧ freshB m σ'.t = true ∧ σ'.t.drop m = t ∧ σ'.ev y = .sv (.raw (.bool b2)))
    (hk : RunL Γ ops rest ⟨(tp, .sv (.raw (.bool (b1 || b2)))) :: t, h⟩ K) : RunL Γ ops l ⟨t, h⟩ K := by
  rw [← List.take_append_drop n l, hl]
  refine q_sc (want := false) (b1 := b1) (b2 := b2) (m := m) hgd ht hok (fun hb => ?_) (fun hb σ' => ?_) ?_
  · have := hrun hb; subst hb; simpa using this
  · have : b1 = true := by simpa using hb
    subst this; rfl
  · cases b1 <;> simpa using hk
/-- 'b1 && b2'. -/
theorem q_and (n m : Nat) {g tg tp ty c : Nat} {b1 b2 : Bool} {x : Operand} {ps : String} {af : Array Edge} {l rest : List (Oper × Nat)} (hl : l.drop n = (⟨some tp, .pick (.tmp tg) x (.const (.bool false)), ty, ps, af, none⟩, c) :: rest) (_hg : l.head?.bind (fun p => p.1.guard) = some (g, true)) (hgd : (ops[g]?).bind (·.dst) = some tg)
    (ht : St.ev ⟨t, h⟩ (.tmp tg) = .sv (.raw (.bool b1))) (hok : (guardedBy ops g true [] (l.take n) && freshT (l.take n) t && (t.lookup tg).isSome) = true)
    (hrun : b1 = true → RunL Γ ops (unguard g true (l.take n)) ⟨t, h⟩ fun σ' => σ'.h = h ∧ freshB m σ'.t = true ∧ σ'.t.drop m = t ∧ σ'.ev x = .sv (.raw (.bool b2)))
    (hk : RunL Γ ops rest ⟨(tp, .sv (.raw (.bool (b1 && b2)))) :: t, h⟩ K) : RunL Γ ops l ⟨t, h⟩ K := by
  rw [← List.take_append_drop n l, hl]
  refine q_sc (want := true) (b1 := b1) (b2 := b2) (m := m) hgd ht hok (fun hb => ?_) (fun hb σ' => ?_) ?_
  · have := hrun hb; subst hb; simpa using this
  · have : b1 = false := by simpa using hb
    subst this; rfl
  · cases b1 <;> simpa using hk
end

/-! ### Frames that say less -/
def leT : List (Nat × LV) → List (Nat × LV) → Prop
  | [], _ => True
  | (k, lv) :: r, t => t.lookup k = some lv ∧ leT r t
theorem leT_spec : ∀ {t' t : List (Nat × LV)}, leT t' t → SubT t' t
  | [], _, _ => fun k lv h => by simp at h
  | (k, lv) :: r, t, h => by
    intro k' lv' h'
    rw [List.lookup_cons] at h'
    by_cases hkk : k' = k
    · subst hkk; simp only [BEq.rfl, Option.some.injEq] at h'; subst h'; exact h.1
    · have : (k' == k) = false := by simpa using hkk
      simp only [this] at h'
      exact leT_spec h.2 k' lv' h'
theorem le_same {Γ : Ctx} {t' t : List (Nat × LV)} {h : List (Nat × Ent)} (ht : leT t' t) : Le Γ ⟨t', h⟩ ⟨t, h⟩ :=
  fun _ _ ⟨ρ, I⟩ => ⟨ρ, I.sub (leT_spec ht) fun _ _ h => h⟩

/-- Entries of the heap that stay as they are. -/
def leH : List (Nat × Ent) → List (Nat × Ent) → Prop
  | [], _ => True
  | (k, e) :: r, h => h.lookup k = some e ∧ leH r h
theorem leH_spec : ∀ {h' h : List (Nat × Ent)}, leH h' h → ∀ k e, h'.lookup k = some e → h.lookup k = some e
  | [], _, _ => fun k e h => by simp at h
  | (k, e) :: r, h, hh => by
    intro k' e' h'
    rw [List.lookup_cons] at h'
    by_cases hkk : k' = k
    · subst hkk; simp only [BEq.rfl, Option.some.injEq] at h'; subst h'; exact hh.1
    · have : (k' == k) = false := by simpa using hkk
      simp only [this] at h'
      exact leH_spec hh.2 k' e' h'
theorem le_sub {Γ : Ctx} {t' t : List (Nat × LV)} {h h' : List (Nat × Ent)} (ht : leT t' t) (hh : leH h' h) : Le Γ ⟨t', h'⟩ ⟨t, h⟩ :=
  fun _ _ ⟨ρ, I⟩ => ⟨ρ, I.sub (leT_spec ht) (leH_spec hh)⟩
theorem le_eq {Γ : Ctx} {t' t : List (Nat × LV)} {h h' : List (Nat × Ent)} (ht : leT t' t) (hh : h = h') : Le Γ ⟨t', h'⟩ ⟨t, h⟩ := by subst hh; exact le_same ht

@[reducible] def ctx (P : Program) (w0 : World) (O : Nat → Prop) (n : Nat) : Ctx := { P := P, w0 := w0, O := O, M := fun _ => False, inn := fun _ => none, n := n }

/-- **A function**, at a frame written out. -/
theorem fn_ok' {P : Program} {f : FuncId} {fn : Func} {c : Code} {rs : List Operand} {args : List SV} {r : SV} {n : Nat} {t0 : List (Nat × LV)} (hf : P.funcs[f]? = some fn) (hb : fn.body = some c) (hrs : resOps fn.results.toList = some rs) (hnt : fn.ntmps = n) (hn : args.length ≤ n)
    (ht : (args.zipIdx.map fun p => (p.2, LV.sv p.1)) = t0) (h : ∀ w0 O, Ok (ctx P w0 O n) c ⟨t0, []⟩ (endQ rs fun l => tupSV l = r)) : PFn P f args r := by
  subst hnt ht
  intro w O
  refine fn_ok_at hf hb hrs hn w O (h w O)
end Go.Abs
