/- A region, operation by operation, over plain values. No condition. -/
import Derived.Test.YtlokejcoikddgaaAbsCode
import Derived.IntWalk
namespace Go.Abs
open Go Go.RowKit Go.Eager

def wpP (P : Program) (ops : Array Oper) (Q : Act → World → Prop) : List (Oper × Nat) → Act → World → Prop
  | [], a, w => Q a w
  | (o, c) :: l, a, w =>
    if c ≤ 1 then ∃ v, Stands P ops c o a w v ∧ wpP P ops Q l (a.put o.dst v) w
    else if Region.wanted o (yielded ops a.tmps) then oN P o a w (fun v w' => (c ≠ 2 → Ext w w') ∧ wpP P ops Q l (a.put o.dst v) w') else wpP P ops Q l (a.put o.dst undef) w

def pairs (ops : Array Oper) (cl : List Nat) : List Nat → Option (List (Oper × Nat))
  | [] => some []
  | i :: s => match ops[i]?, pairs ops cl s with | some o, some l => some ((o, cl.getD i 2) :: l) | _, _ => none

theorem wpE_of_wpP {P : Program} {ops : Array Oper} {Q : Act → World → Prop} {cl : List Nat} : ∀ {s : List Nat} {l : List (Oper × Nat)} {a : Act} {w : World}, pairs ops cl s = some l → wpP P ops Q l a w → wpE P ops (fun i => cl.getD i 2) Q s a w
  | [], l, a, w, hp, h => by simp [pairs] at hp; subst hp; exact h
  | i :: s, l, a, w, hp, h => by
    unfold pairs at hp
    split at hp
    · rename_i o l' ho hl
      cases hp
      unfold wpE
      simp only [ho]
      unfold wpP at h
      by_cases hc : cl.getD i 2 ≤ 1
      · rw [if_pos hc] at h ⊢
        obtain ⟨v, h1, h2⟩ := h
        exact ⟨v, h1, wpE_of_wpP hl h2⟩
      · rw [if_neg hc] at h ⊢
        unfold opN
        simp only [ho]
        split
        · rename_i hw; rw [if_pos hw] at h
          exact oN_mono (fun v w' hk => ⟨hk.1, wpE_of_wpP hl hk.2⟩) h
        · rename_i hw; rw [if_neg hw] at h
          exact wpE_of_wpP hl h
    · cases hp

theorem wpList_of_wpP {P : Program} {ops : Array Oper} {Q : Act → World → Prop} {Q' : Exit → Act → World → Prop} (hQ : ∀ a w, Q a w → Q' .normal a w) : ∀ (l : List Oper) (a : Act) (w : World), wpP P ops Q (l.map fun o => (o, 2)) a w → wpList P ops Q' l a w
  | [], a, w, h => hQ a w h
  | o :: l, a, w, h => by
    unfold wpList
    simp only [List.map_cons] at h
    unfold wpP at h
    rw [if_neg (by omega)] at h
    split
    · rename_i hw; rw [if_pos hw] at h
      exact .inl (oN_wp (oN_mono (fun v w' hk => wpList_of_wpP hQ l _ _ hk.2) h))
    · rename_i hw; rw [if_neg hw] at h
      exact wpList_of_wpP hQ l _ _ h

/-- What is left of a region, from a frame on. -/
def RunL (Γ : Ctx) (ops : Array Oper) (l : List (Oper × Nat)) (σ : St) (K : St → Prop) : Prop :=
  l.all (fun p => dstOk Γ p.1) = true → ∀ a w, Inv Γ σ a w → wpP Γ.P ops (fun a' w' => ∃ σ', K σ' ∧ Inv Γ σ' a' w') l a w

section
variable {Γ : Ctx} {ops : Array Oper} {l : List (Oper × Nat)} {σ : St} {K : St → Prop} {Q : Exit → St → Prop} {c : Nat}

theorem drew_ext (w : World) : Ext w { w with drawn := w.drawn + 1 } := ⟨rfl, rfl, rfl, Nat.le_refl _, fun _ _ => rfl⟩
theorem Inv.drew {a : Act} {w : World} (h : Inv Γ σ a w) : Inv Γ σ a { w with drawn := w.drawn + 1 } := by
  obtain ⟨ρ, I⟩ := h; exact ⟨ρ, I.ext (drew_ext w)⟩

theorem ok_region {id : Nat} {L : List Oper} (hd : (L.map fun o => (o, 2)).all (fun p => dstOk Γ p.1) = true) (h : RunL Γ L.toArray (L.map fun o => (o, 2)) σ K) : Ok Γ (.region id L.toArray false) σ (thenQ K Q) :=
  fun _ _ I => wp_region_lit (wpList_of_wpP (fun _ _ ⟨σ', h1, h2⟩ => ⟨σ', h1, h2⟩) L _ _ (h hd _ _ I))

theorem ok_region_d {id : Nat} (cl : List Nat) (B : Array (List Nat)) (s : List Nat) (hm : Γ.P.follows .mixedOrders = true)
    (hc : (closedB ops B && Region.noSelect ops && (s.length == ops.size) && chk ops (fun i => cl.getD i 2) B s (Array.replicate ops.size false)) = true)
    (hl : pairs ops cl s = some l) (hd : l.all (fun p => dstOk Γ p.1) = true) (h : RunL Γ ops l σ K) : Ok Γ (.region id ops true) σ (thenQ K Q) :=
  fun a _ I => wp_region_eager (fun i => cl.getD i 2) B s hm hc (wpE_of_wpP hl (by
    have := h hd a _ I.drew
    exact this))

/-- The class of an operation, as our rules take it; what each waits for, reckoned. -/
def clsOp : Op → Nat
  | .load _ _ => 1
  | .call { callee := .builtin .len, .. } => 0
  | .call { callee := .builtin .min, .. } => 0
  | .call { callee := .builtin .max, .. } => 0
  | .call { callee := .value _, .. } => 3
  | .alloc _ | .box _ _ | .buildSlice _ _ _ | .makeSlice _ _ _ | .makeMap _ _ | .lookup _ _ _ _ => 3
  | .move _ | .assign _ | .pick _ _ _ | .fieldAddr _ _ _ | .field _ _ _ | .unOp _ _ _ | .extract _ _ | .binOp _ _ _ _ _ | .convert _ _ _ | .nilCheck _ | .slice _ _ _ _ _ | .indexAddr _ _ _ | .index _ _ _ => 0
  | _ => 2
def addNew (s : List Nat) (m : Nat) : List Nat := if s.contains m then s else m :: s
def waits (L : List Oper) : Array (List Nat) := L.foldl (init := #[]) fun acc o => acc.push ((o.after.toList.filter fun e => Region.binds .any e).foldl (init := []) fun s e => if s.contains e.on then s else (acc.getD e.on []).foldl addNew (e.on :: s))
theorem pairs_range (L : List Oper) (cl : Nat → Nat) : ∀ (l : List Oper) (k : Nat), (∀ j, l[j]? = L[k + j]?) → ∀ (Q : Act → World → Prop) (P : Program) (a : Act) (w : World), (∀ j o, L[j]? = some o → cl j = clsOp o.op) →
    wpP P L.toArray Q (l.map fun o => (o, clsOp o.op)) a w → wpE P L.toArray cl Q (List.range' k l.length) a w
  | [], k, _, Q, P, a, w, _, h => h
  | o :: l, k, hl, Q, P, a, w, hcl, h => by
    have h0 : L[k]? = some o := by simpa using (hl 0).symm
    have hl' : ∀ j, l[j]? = L[k + 1 + j]? := fun j => by have := hl (j + 1); simpa [Nat.add_assoc, Nat.add_comm 1 j] using this
    have hc := hcl k o h0
    rw [List.length_cons, List.range'_succ]
    unfold wpE
    have h0' : L.toArray[k]? = some o := by simpa using h0
    simp only [h0']
    simp only [List.map_cons] at h
    unfold wpP at h
    by_cases h1 : cl k ≤ 1
    · rw [if_pos h1]
      rw [if_pos (by rw [← hc]; exact h1)] at h
      obtain ⟨v, h4, h5⟩ := h
      exact ⟨v, by rw [hc]; exact h4, pairs_range L cl l (k + 1) hl' Q P _ w hcl h5⟩
    · rw [if_neg h1]
      rw [if_neg (by rw [← hc]; exact h1)] at h
      unfold opN
      simp only [h0']
      split
      · rename_i hw; rw [if_pos hw] at h
        exact oN_mono (fun v w' hk => ⟨fun h2 => hk.1 (by rw [← hc]; exact h2), pairs_range L cl l (k + 1) hl' Q P _ _ hcl hk.2⟩) h
      · rename_i hw; rw [if_neg hw] at h
        exact pairs_range L cl l (k + 1) hl' Q P _ _ hcl h
/-- A region that draws its order, walked in the order of the text. -/
theorem ok_region_i {id : Nat} {L : List Oper} (hm : Γ.P.follows .mixedOrders = true)
    (hc : (closedB L.toArray (waits L) && Region.noSelect L.toArray && chk L.toArray (fun i => match L[i]? with | some o => clsOp o.op | none => 2) (waits L) (List.range' 0 L.length) (Array.replicate L.length false)) = true)
    (hd : (L.map fun o => (o, clsOp o.op)).all (fun p => dstOk Γ p.1) = true) (h : RunL Γ L.toArray (L.map fun o => (o, clsOp o.op)) σ K) : Ok Γ (.region id L.toArray true) σ (thenQ K Q) :=
  fun a w I => wp_region_eager (fun i => match L[i]? with | some o => clsOp o.op | none => 2) (waits L) (List.range' 0 L.length) hm (by
    simp only [Bool.and_eq_true] at hc ⊢
    exact ⟨⟨⟨hc.1.1, hc.1.2⟩, by simp⟩, by simpa using hc.2⟩) (pairs_range L _ L 0 (by simp) _ _ a _ (fun j o ho => by simp [ho]) (h hd a _ I.drew))

theorem run_nil (h : K σ) : RunL Γ ops [] σ K := fun _ a w I => ⟨σ, h, I⟩

theorem wanted_none {o : Oper} (hg : o.guard = none) (t : Array Value) : Region.wanted o (yielded ops t) = true := by simp [Region.wanted, hg]

theorem run_pure {o : Oper} (hg : o.guard = none) (h : stepP Γ.P σ o.op fun lv => RunL Γ ops l (σ.put o.dst lv) K) : RunL Γ ops ((o, c) :: l) σ K := by
  intro hd a w ⟨ρ, I⟩
  simp only [List.all_cons, Bool.and_eq_true] at hd
  obtain ⟨lv, v, hk, hv, hrun⟩ := stepP_sound I h
  have I' : Inv Γ (σ.put o.dst lv) (a.put o.dst v) w := ⟨ρ, I.put (dstOk_spec hd.1) hv⟩
  unfold wpP
  split
  · exact ⟨v, .inl ⟨wanted_none hg _, fun w' _ => hrun w'⟩, hk hd.2 _ _ I'⟩
  · rw [if_pos (wanted_none hg _)]
    unfold oN
    rw [hrun w]
    exact ⟨fun _ => Ext.refl w, hk hd.2 _ _ I'⟩

theorem run_read {o : Oper} (hg : o.guard = none) (hc : c ≠ 0) (h : stepR Γ.P σ o.op fun lv => RunL Γ ops l (σ.put o.dst lv) K) : RunL Γ ops ((o, c) :: l) σ K := by
  intro hd a w ⟨ρ, I⟩
  simp only [List.all_cons, Bool.and_eq_true] at hd
  obtain ⟨lv, v, hk, hv, hrun⟩ := stepR_sound I h
  have I' : Inv Γ (σ.put o.dst lv) (a.put o.dst v) w := ⟨ρ, I.put (dstOk_spec hd.1) hv⟩
  unfold wpP
  split
  · exact ⟨v, .inl ⟨wanted_none hg _, fun w' hx => hrun w' (hx.resolve_left hc)⟩, hk hd.2 _ _ I'⟩
  · rw [if_pos (wanted_none hg _)]
    unfold oN
    rw [hrun w (Ext.refl w)]
    exact ⟨fun _ => Ext.refl w, hk hd.2 _ _ I'⟩

theorem run_x {o : Oper} {ext : Prop} (hg : o.guard = none) (hc : 1 < c) (he : c ≠ 2 → ext) (h : ∀ a w ρ, Iv Γ σ ρ a w → dstOk Γ o = true → XOk Γ a w o ext fun σ' => RunL Γ ops l σ' K) : RunL Γ ops ((o, c) :: l) σ K := by
  intro hd a w ⟨ρ, I⟩
  simp only [List.all_cons, Bool.and_eq_true] at hd
  have h1 := h a w ρ I hd.1
  unfold wpP
  rw [if_neg (by omega), if_pos (wanted_none hg _)]
  exact oN_mono (fun v w' ⟨σ', hk, hi, hx⟩ => ⟨fun h2 => hx (he h2), hk hd.2 _ _ hi⟩) h1

/-- A guarded operation: the guard's slot holds a truth. -/
theorem run_guard {o : Oper} {g t : Nat} {want b : Bool} (hg : o.guard = some (g, want)) (hgd : (ops[g]?).bind (·.dst) = some t) (ht : σ.ev (.tmp t) = .sv (.raw (.bool b)))
    (h1 : b = want → RunL Γ ops (({ o with guard := none }, c) :: l) σ K) (h2 : b = !want → RunL Γ ops l (σ.put o.dst (.sv (.raw undef))) K) : RunL Γ ops ((o, c) :: l) σ K := by
  intro hd a w ⟨ρ, I⟩
  have hv : a.tmps.getD t undef = .bool b := ev_raw I ht
  have hv' : a.tmps[t]?.getD undef = .bool b := by rw [← Array.getD_eq_getD_getElem?]; exact hv
  have hv2 : a.tmps[t]? = some (.bool b) := by
    cases ht : a.tmps[t]? with
    | none => rw [ht] at hv'; simp [undef] at hv'
    | some u => rw [ht] at hv'; simp at hv'; rw [hv']
  have hw : Region.wanted o (yielded ops a.tmps) = (b == want) := by
    simp [Region.wanted, hg, yielded, hgd, hv2]
  have hex : ∀ a : Act, execOp a.eval { o with guard := none } = execOp a.eval o := fun a => rfl
  by_cases hb : b = want
  · have h3 := h1 hb (by simpa [dstOk] using hd) a w ⟨ρ, I⟩
    have hw' : Region.wanted o (yielded ops a.tmps) = true := by rw [hw, hb]; simp
    have hw2 : Region.wanted { o with guard := none } (yielded ops a.tmps) = true := wanted_none rfl _
    unfold wpP at h3 ⊢
    split
    · rename_i hc
      rw [if_pos hc] at h3
      obtain ⟨v, h4, h5⟩ := h3
      refine ⟨v, ?_, h5⟩
      rcases h4 with ⟨_, h4⟩ | ⟨h4, _⟩
      · exact .inl ⟨hw', h4⟩
      · rw [hw2] at h4; cases h4
    · rename_i hc
      rw [if_neg hc] at h3
      first
        | (rw [if_pos hw2] at h3; rw [if_pos hw']; exact h3)
        | (rw [if_pos hw']; exact h3)
        | exact h3
  · simp only [List.all_cons, Bool.and_eq_true] at hd
    have hb' : b = !want := by cases b <;> cases want <;> simp_all
    have h3 := h2 hb' hd.2 (a.put o.dst undef) w ⟨ρ, I.put (dstOk_spec hd.1) (Rep.raw undef)⟩
    have hw' : Region.wanted o (yielded ops a.tmps) = false := by rw [hw]; simpa using hb
    unfold wpP
    split
    · exact ⟨undef, .inr ⟨hw', rfl⟩, h3⟩
    · rw [if_neg (by rw [hw']; simp)]; exact h3

/-- A guarded operation whose guard was passed over itself. -/
theorem run_guard_undef {o : Oper} {g t : Nat} {want : Bool} (hg : o.guard = some (g, want)) (hgd : (ops[g]?).bind (·.dst) = some t) (ht : σ.ev (.tmp t) = .sv (.raw undef)) (h2 : RunL Γ ops l (σ.put o.dst (.sv (.raw undef))) K) : RunL Γ ops ((o, c) :: l) σ K := by
  intro hd a w ⟨ρ, I⟩
  have hv : a.tmps.getD t undef = undef := ev_raw I ht
  have hw : Region.wanted o (yielded ops a.tmps) = false := by
    have hv' : a.tmps[t]?.getD undef = undef := by rw [← Array.getD_eq_getD_getElem?]; exact hv
    cases hs : a.tmps[t]? with
    | none => simp [Region.wanted, hg, yielded, hgd, hs]
    | some u => rw [hs] at hv'; simp at hv'; simp [Region.wanted, hg, yielded, hgd, hs, hv', undef]
  simp only [List.all_cons, Bool.and_eq_true] at hd
  have h3 := h2 hd.2 (a.put o.dst undef) w ⟨ρ, I.put (dstOk_spec hd.1) (Rep.raw undef)⟩
  unfold wpP
  split
  · exact ⟨undef, .inr ⟨hw, rfl⟩, h3⟩
  · rw [if_neg (by rw [hw]; simp)]; exact h3
end

/-! ### The operations, one rule each -/
section
variable {Γ : Ctx} {ops : Array Oper} {l : List (Oper × Nat)} {t : List (Nat × LV)} {h : List (Nat × Ent)} {K : St → Prop} {c d ty : Nat} {ps : String} {af : Array Edge} {x y : Operand}

theorem q_mv (s : SV) (hx : St.ev ⟨t, h⟩ x = .sv s) (hk : RunL Γ ops l ⟨(d, .sv s) :: t, h⟩ K) : RunL Γ ops ((⟨some d, .move x, ty, ps, af, none⟩, c) :: l) ⟨t, h⟩ K :=
  run_pure rfl (by show RunL Γ ops l ⟨(d, St.ev ⟨t, h⟩ x) :: t, h⟩ K; rw [hx]; exact hk)
theorem q_as (s : SV) (hx : St.ev ⟨t, h⟩ x = .sv s) (hk : RunL Γ ops l ⟨(d, .sv s) :: t, h⟩ K) : RunL Γ ops ((⟨some d, .assign x, ty, ps, af, none⟩, c) :: l) ⟨t, h⟩ K :=
  run_pure rfl (by show RunL Γ ops l ⟨(d, St.ev ⟨t, h⟩ x) :: t, h⟩ K; rw [hx]; exact hk)
theorem q_mo (k : Nat) (hx : St.ev ⟨t, h⟩ x = .own k) (hk : RunL Γ ops l ⟨(d, .own k) :: t, h⟩ K) : RunL Γ ops ((⟨some d, .move x, ty, ps, af, none⟩, c) :: l) ⟨t, h⟩ K :=
  run_pure rfl (by show RunL Γ ops l ⟨(d, St.ev ⟨t, h⟩ x) :: t, h⟩ K; rw [hx]; exact hk)
theorem q_ao (k : Nat) (hx : St.ev ⟨t, h⟩ x = .own k) (hk : RunL Γ ops l ⟨(d, .own k) :: t, h⟩ K) : RunL Γ ops ((⟨some d, .assign x, ty, ps, af, none⟩, c) :: l) ⟨t, h⟩ K :=
  run_pure rfl (by show RunL Γ ops l ⟨(d, St.ev ⟨t, h⟩ x) :: t, h⟩ K; rw [hx]; exact hk)
theorem q_mp (k j : Nat) (hx : St.ev ⟨t, h⟩ x = .ptr k j) (hk : RunL Γ ops l ⟨(d, .ptr k j) :: t, h⟩ K) : RunL Γ ops ((⟨some d, .move x, ty, ps, af, none⟩, c) :: l) ⟨t, h⟩ K :=
  run_pure rfl (by show RunL Γ ops l ⟨(d, St.ev ⟨t, h⟩ x) :: t, h⟩ K; rw [hx]; exact hk)
theorem q_ap (k j : Nat) (hx : St.ev ⟨t, h⟩ x = .ptr k j) (hk : RunL Γ ops l ⟨(d, .ptr k j) :: t, h⟩ K) : RunL Γ ops ((⟨some d, .assign x, ty, ps, af, none⟩, c) :: l) ⟨t, h⟩ K :=
  run_pure rfl (by show RunL Γ ops l ⟨(d, St.ev ⟨t, h⟩ x) :: t, h⟩ K; rw [hx]; exact hk)

theorem q_bin (u v r : Value) {b : BinOp} {t1 t2 : Nat} (hx : St.ev ⟨t, h⟩ x = .sv (.raw u)) (hy : St.ev ⟨t, h⟩ y = .sv (.raw v)) (hr : vBin b u v = some r) (hk : RunL Γ ops l ⟨(d, .sv (.raw r)) :: t, h⟩ K) :
    RunL Γ ops ((⟨some d, .binOp b t1 x y t2, ty, ps, af, none⟩, c) :: l) ⟨t, h⟩ K :=
  run_pure rfl (by simp only [stepP, hx, hy]; exact ⟨r, vBinP_of hr, hk⟩)
/-- Two truth values: not the same; the same. -/
theorem q_neb {p q : Bool} {t1 t2 : Nat} (hu : Γ.P.underlying t1 = some .bool) (hx : St.ev ⟨t, h⟩ x = .sv (.raw (.bool p))) (hy : St.ev ⟨t, h⟩ y = .sv (.raw (.bool q))) (hk : RunL Γ ops l ⟨(d, .sv (.raw (.bool (p != q)))) :: t, h⟩ K) :
    RunL Γ ops ((⟨some d, .binOp .neq t1 x y t2, ty, ps, af, none⟩, c) :: l) ⟨t, h⟩ K :=
  run_pure rfl (by simp only [stepP, hx, hy]; exact ⟨_, by simp only [vBinP, hu], hk⟩)
theorem q_eqb {p q : Bool} {t1 t2 : Nat} (hu : Γ.P.underlying t1 = some .bool) (hx : St.ev ⟨t, h⟩ x = .sv (.raw (.bool p))) (hy : St.ev ⟨t, h⟩ y = .sv (.raw (.bool q))) (hk : RunL Γ ops l ⟨(d, .sv (.raw (.bool (p == q)))) :: t, h⟩ K) :
    RunL Γ ops ((⟨some d, .binOp .eql t1 x y t2, ty, ps, af, none⟩, c) :: l) ⟨t, h⟩ K :=
  run_pure rfl (by simp only [stepP, hx, hy]; exact ⟨_, by simp only [vBinP, hu], hk⟩)
theorem q_add {p q : Int} {t1 t2 : Nat} (hx : St.ev ⟨t, h⟩ x = .sv (.raw (.int .i64 p))) (hy : St.ev ⟨t, h⟩ y = .sv (.raw (.int .i64 q))) (hb : -9223372036854775808 ≤ p + q ∧ p + q ≤ 9223372036854775807) (hk : RunL Γ ops l ⟨(d, .sv (.raw (.int .i64 (p + q)))) :: t, h⟩ K) :
    RunL Γ ops ((⟨some d, .binOp .add t1 x y t2, ty, ps, af, none⟩, c) :: l) ⟨t, h⟩ K :=
  q_bin _ _ _ hx hy (by simp [vBin, vInt, IntWalk.i64_in _ hb]) hk
theorem q_sub {p q : Int} {t1 t2 : Nat} (hx : St.ev ⟨t, h⟩ x = .sv (.raw (.int .i64 p))) (hy : St.ev ⟨t, h⟩ y = .sv (.raw (.int .i64 q))) (hb : -9223372036854775808 ≤ p - q ∧ p - q ≤ 9223372036854775807) (hk : RunL Γ ops l ⟨(d, .sv (.raw (.int .i64 (p - q)))) :: t, h⟩ K) :
    RunL Γ ops ((⟨some d, .binOp .sub t1 x y t2, ty, ps, af, none⟩, c) :: l) ⟨t, h⟩ K :=
  q_bin _ _ _ hx hy (by simp [vBin, vInt, IntWalk.i64_in _ hb]) hk
theorem q_mul {p q : Int} {t1 t2 : Nat} (hx : St.ev ⟨t, h⟩ x = .sv (.raw (.int .i64 p))) (hy : St.ev ⟨t, h⟩ y = .sv (.raw (.int .i64 q))) (hb : -9223372036854775808 ≤ p * q ∧ p * q ≤ 9223372036854775807) (hk : RunL Γ ops l ⟨(d, .sv (.raw (.int .i64 (p * q)))) :: t, h⟩ K) :
    RunL Γ ops ((⟨some d, .binOp .mul t1 x y t2, ty, ps, af, none⟩, c) :: l) ⟨t, h⟩ K :=
  q_bin _ _ _ hx hy (by simp [vBin, vInt, IntWalk.i64_in _ hb]) hk
theorem q_div {p q : Int} {t1 t2 : Nat} (hx : St.ev ⟨t, h⟩ x = .sv (.raw (.int .i64 p))) (hy : St.ev ⟨t, h⟩ y = .sv (.raw (.int .i64 q))) (hb : 0 ≤ p ∧ 0 < q ∧ p ≤ 9223372036854775807) (hk : RunL Γ ops l ⟨(d, .sv (.raw (.int .i64 (p / q)))) :: t, h⟩ K) :
    RunL Γ ops ((⟨some d, .binOp .quo t1 x y t2, ty, ps, af, none⟩, c) :: l) ⟨t, h⟩ K := by
  have h1 : q ≠ 0 := by omega
  have h2 : p.tdiv q = p / q := Int.tdiv_eq_ediv_of_nonneg hb.1
  have h3 : 0 ≤ p / q := Int.ediv_nonneg hb.1 (by omega)
  have h4 : p / q ≤ p := Int.ediv_le_self q hb.1
  exact q_bin _ _ _ hx hy (by simp [vBin, vInt, h1, h2, IntWalk.i64_in (p / q) ⟨by omega, by omega⟩]) hk
theorem q_mod {p q : Int} {t1 t2 : Nat} (hx : St.ev ⟨t, h⟩ x = .sv (.raw (.int .i64 p))) (hy : St.ev ⟨t, h⟩ y = .sv (.raw (.int .i64 q))) (hb : 0 ≤ p ∧ 0 < q) (hk : RunL Γ ops l ⟨(d, .sv (.raw (.int .i64 (p % q)))) :: t, h⟩ K) :
    RunL Γ ops ((⟨some d, .binOp .rem t1 x y t2, ty, ps, af, none⟩, c) :: l) ⟨t, h⟩ K := by
  have h1 : q ≠ 0 := by omega
  have h2 : p.tmod q = p % q := Int.tmod_eq_emod_of_nonneg hb.1
  exact q_bin _ _ _ hx hy (by simp [vBin, vInt, h1, h2]) hk
theorem q_un (u r : Value) {b : UnOp} {t1 : Nat} (hx : St.ev ⟨t, h⟩ x = .sv (.raw u)) (hr : vUn b u = some r) (hk : RunL Γ ops l ⟨(d, .sv (.raw r)) :: t, h⟩ K) :
    RunL Γ ops ((⟨some d, .unOp b t1 x, ty, ps, af, none⟩, c) :: l) ⟨t, h⟩ K :=
  run_pure rfl (by simp only [stepP, hx]; exact ⟨r, hr, hk⟩)
theorem q_pick {b : Bool} {s1 s2 : LV} {z : Operand} (hz : St.ev ⟨t, h⟩ z = .sv (.raw (.bool b))) (hx : St.ev ⟨t, h⟩ x = s1) (hy : St.ev ⟨t, h⟩ y = s2) (h1 : b = true → RunL Γ ops l ⟨(d, s1) :: t, h⟩ K) (h2 : b = false → RunL Γ ops l ⟨(d, s2) :: t, h⟩ K) :
    RunL Γ ops ((⟨some d, .pick z x y, ty, ps, af, none⟩, c) :: l) ⟨t, h⟩ K :=
  run_pure rfl (by simp only [stepP, hz, hx, hy]; exact ⟨h1, h2⟩)
theorem q_pickt {u : SV} {z : Operand} (hz : St.ev ⟨t, h⟩ z = .sv (.raw (.bool true))) (hx : St.ev ⟨t, h⟩ x = .sv u) (hk : RunL Γ ops l ⟨(d, .sv u) :: t, h⟩ K) :
    RunL Γ ops ((⟨some d, .pick z x y, ty, ps, af, none⟩, c) :: l) ⟨t, h⟩ K :=
  q_pick hz hx rfl (fun _ => hk) (fun h => by cases h)
theorem q_pickf {u : SV} {z : Operand} (hz : St.ev ⟨t, h⟩ z = .sv (.raw (.bool false))) (hy : St.ev ⟨t, h⟩ y = .sv u) (hk : RunL Γ ops l ⟨(d, .sv u) :: t, h⟩ K) :
    RunL Γ ops ((⟨some d, .pick z x y, ty, ps, af, none⟩, c) :: l) ⟨t, h⟩ K :=
  q_pick hz rfl hy (fun h => by cases h) (fun _ => hk)
theorem q_nc (s : SV) (hx : St.ev ⟨t, h⟩ x = .sv (.ptr s)) (hk : RunL Γ ops l ⟨(d, .sv (.ptr s)) :: t, h⟩ K) : RunL Γ ops ((⟨some d, .nilCheck x, ty, ps, af, none⟩, c) :: l) ⟨t, h⟩ K :=
  run_pure rfl (by simp only [stepP, hx]; exact hk)
theorem q_ncp (k j : Nat) (hx : St.ev ⟨t, h⟩ x = .ptr k j) (hk : RunL Γ ops l ⟨(d, .ptr k j) :: t, h⟩ K) : RunL Γ ops ((⟨some d, .nilCheck x, ty, ps, af, none⟩, c) :: l) ⟨t, h⟩ K :=
  run_pure rfl (by simp only [stepP, hx]; exact hk)
theorem q_ext {r : List SV} (s : SV) {i : Nat} (hx : St.ev ⟨t, h⟩ x = .sv (.tup r)) (hi : r[i]? = some s) (hk : RunL Γ ops l ⟨(d, .sv s) :: t, h⟩ K) : RunL Γ ops ((⟨some d, .extract x i, ty, ps, af, none⟩, c) :: l) ⟨t, h⟩ K :=
  run_pure rfl (by simp only [stepP, hx]; exact ⟨s, hi, hk⟩)
/-- The address of a field of one cell; of a field that is a struct; in a box of ours; in an element of a row of ours. -/
theorem q_fa {r : List SV} (s : SV) {S f off n : Nat} (hf : fdOf Γ.P S f = some (off, n, false)) (hx : St.ev ⟨t, h⟩ x = .sv (.ptr (.agg r))) (hi : r[off]? = some s) (hn : 0 < n) (hk : RunL Γ ops l ⟨(d, .sv (.ptr s)) :: t, h⟩ K) :
    RunL Γ ops ((⟨some d, .fieldAddr S x f, ty, ps, af, none⟩, c) :: l) ⟨t, h⟩ K :=
  run_pure rfl (by simp only [stepP, hx]; exact ⟨_, hf, hn, fun _ => ⟨s, hi, hk⟩, fun h => by cases h⟩)
theorem q_fas {r r' : List SV} {S f off n : Nat} (hf : fdOf Γ.P S f = some (off, n, true)) (hx : St.ev ⟨t, h⟩ x = .sv (.ptr (.agg r))) (hn : 0 < n) (hle : off + n ≤ r.length) (hr : (r.drop off).take n = r') (hk : RunL Γ ops l ⟨(d, .sv (.ptr (.agg r'))) :: t, h⟩ K) :
    RunL Γ ops ((⟨some d, .fieldAddr S x f, ty, ps, af, none⟩, c) :: l) ⟨t, h⟩ K :=
  run_pure rfl (by subst hr; simp only [stepP, hx]; exact ⟨_, hf, hn, (fun h => by cases h), fun _ => ⟨hle, hk⟩⟩)
theorem q_fap {k j S f off n : Nat} {g : Bool} (hf : fdOf Γ.P S f = some (off, n, g)) (hx : St.ev ⟨t, h⟩ x = .ptr k j) (hn : 0 < n) (hk : RunL Γ ops l ⟨(d, .ptr k (j + off)) :: t, h⟩ K) :
    RunL Γ ops ((⟨some d, .fieldAddr S x f, ty, ps, af, none⟩, c) :: l) ⟨t, h⟩ K :=
  run_pure rfl (by simp only [stepP, hx]; exact ⟨_, hf, hn, hk⟩)
theorem q_fae {k m i j S f off n : Nat} {g : Bool} (hf : fdOf Γ.P S f = some (off, n, g)) (hx : St.ev ⟨t, h⟩ x = .eptr k m i j) (hn : 0 < n) (hk : RunL Γ ops l ⟨(d, .eptr k m i (j + off)) :: t, h⟩ K) :
    RunL Γ ops ((⟨some d, .fieldAddr S x f, ty, ps, af, none⟩, c) :: l) ⟨t, h⟩ K :=
  run_pure rfl (by simp only [stepP, hx]; exact ⟨_, hf, hn, hk⟩)
theorem q_fd {r : List SV} (s : SV) {S f off n : Nat} (hf : fdOf Γ.P S f = some (off, n, false)) (hx : St.ev ⟨t, h⟩ x = .sv (.agg r)) (hi : r[off]? = some s) (hk : RunL Γ ops l ⟨(d, .sv s) :: t, h⟩ K) :
    RunL Γ ops ((⟨some d, .field S x f, ty, ps, af, none⟩, c) :: l) ⟨t, h⟩ K :=
  run_pure rfl (by simp only [stepP, hx]; exact ⟨_, hf, fun _ => ⟨s, hi, hk⟩, fun h => by cases h⟩)
theorem q_ia {r : List SV} {s : SV} {S e n : Nat} {kk : IntKind} {i : Int} (he : elOf Γ.P S = some (e, n)) (hx : St.ev ⟨t, h⟩ x = .sv (.sl n r)) (hy : St.ev ⟨t, h⟩ y = .sv (.raw (.int kk i))) (h0 : 0 ≤ i) (hi : r[i.toNat]? = some s) (hk : RunL Γ ops l ⟨(d, .sv (.ptr s)) :: t, h⟩ K) :
    RunL Γ ops ((⟨some d, .indexAddr S x y, ty, ps, af, none⟩, c) :: l) ⟨t, h⟩ K :=
  run_pure rfl (by simp only [stepP, hx, hy]; exact ⟨_, he, rfl, h0, s, hi, hk⟩)
theorem q_iao {r : List SV} {k T S e n : Nat} {kk : IntKind} {i : Int} (he : elOf Γ.P S = some (e, n)) (hx : St.ev ⟨t, h⟩ x = .own k) (hh : h.lookup k = some (.row n T r)) (hy : St.ev ⟨t, h⟩ y = .sv (.raw (.int kk i))) (h0 : 0 ≤ i) (hi : i.toNat < r.length) (hk : RunL Γ ops l ⟨(d, .eptr k n i.toNat 0) :: t, h⟩ K) :
    RunL Γ ops ((⟨some d, .indexAddr S x y, ty, ps, af, none⟩, c) :: l) ⟨t, h⟩ K :=
  run_pure rfl (by simp only [stepP, hx, hy]; exact ⟨_, he, T, r, hh, h0, hi, hk⟩)
theorem q_ix {s : ByteArray} {b : UInt8} {S : Nat} {kk : IntKind} {i : Int} (hS : strOf Γ.P S = true) (hx : St.ev ⟨t, h⟩ x = .sv (.raw (.string s))) (hy : St.ev ⟨t, h⟩ y = .sv (.raw (.int kk i))) (h0 : 0 ≤ i) (hi : s[i.toNat]? = some b) (hk : RunL Γ ops l ⟨(d, .sv (.raw (.int .u8 b.toNat))) :: t, h⟩ K) :
    RunL Γ ops ((⟨some d, .index S x y, ty, ps, af, none⟩, c) :: l) ⟨t, h⟩ K :=
  run_pure rfl (by simp only [stepP, hx, hy]; exact ⟨hS, h0, b, hi, hk⟩)
/-- A part of a string, of a row: from, to. -/
def Lo (σ : St) (lo : Option Operand) (p : Int) : Prop := (lo = none ∧ p = 0) ∨ ∃ o k, lo = some o ∧ σ.ev o = .sv (.raw (.int k p))
def Hi (σ : St) (n : Nat) (hi : Option Operand) (q : Int) : Prop := (hi = none ∧ q = n) ∨ ∃ o k, hi = some o ∧ σ.ev o = .sv (.raw (.int k q))
theorem q_ss {s : ByteArray} {S : Nat} {lo hi : Option Operand} (p q : Int) (hS : strOf Γ.P S = true) (hx : St.ev ⟨t, h⟩ x = .sv (.raw (.string s))) (h1 : Lo ⟨t, h⟩ lo p) (h2 : Hi ⟨t, h⟩ s.size hi q) (h3 : 0 ≤ p) (h4 : p ≤ q) (h5 : q ≤ s.size)
    (hk : RunL Γ ops l ⟨(d, .sv (.raw (.string (s.extract p.toNat q.toNat)))) :: t, h⟩ K) : RunL Γ ops ((⟨some d, .slice S x lo hi none, ty, ps, af, none⟩, c) :: l) ⟨t, h⟩ K :=
  run_pure rfl (by simp only [stepP, hx]; exact ⟨hS, p, q, h1, h2, h3, h4, h5, hk⟩)
theorem q_sl {r : List SV} {S e n : Nat} {lo hi : Option Operand} (p q : Int) (he : elOf Γ.P S = some (e, n)) (hx : St.ev ⟨t, h⟩ x = .sv (.sl n r)) (h1 : Lo ⟨t, h⟩ lo p) (h2 : Hi ⟨t, h⟩ r.length hi q) (h3 : 0 ≤ p) (h4 : p ≤ q) (h5 : q ≤ r.length)
    (hk : RunL Γ ops l ⟨(d, .sv (.sl n ((r.drop p.toNat).take (q - p).toNat))) :: t, h⟩ K) : RunL Γ ops ((⟨some d, .slice S x lo hi none, ty, ps, af, none⟩, c) :: l) ⟨t, h⟩ K :=
  run_pure rfl (by simp only [stepP, hx]; exact ⟨_, he, rfl, p, q, h1, h2, h3, h4, h5, hk⟩)
theorem q_cv {p : Int} {S D : Nat} {kk k' : IntKind} (hs : (aggOf Γ.P S).isSome = true) (hd : inkOf Γ.P D = some k') (hx : St.ev ⟨t, h⟩ x = .sv (.raw (.int kk p))) (hw : k'.wrap p = p) (hk : RunL Γ ops l ⟨(d, .sv (.raw (.int k' p))) :: t, h⟩ K) :
    RunL Γ ops ((⟨some d, .convert S D x, ty, ps, af, none⟩, c) :: l) ⟨t, h⟩ K :=
  run_pure rfl (by simp only [stepP, hx]; exact ⟨hs, k', hd, by rw [hw]; exact hk⟩)
theorem q_cvs {s : ByteArray} {S D : Nat} (hs : strOf Γ.P S = true) (hd : strOf Γ.P D = true) (hx : St.ev ⟨t, h⟩ x = .sv (.raw (.string s))) (hk : RunL Γ ops l ⟨(d, .sv (.raw (.string s))) :: t, h⟩ K) :
    RunL Γ ops ((⟨some d, .convert S D x, ty, ps, af, none⟩, c) :: l) ⟨t, h⟩ K :=
  run_pure rfl (by simp only [stepP, hx]; exact ⟨hs, hd, hk⟩)
theorem q_len {r : List SV} {S n : Nat} (he : (elOf Γ.P S).isSome = true) (hx : St.ev ⟨t, h⟩ x = .sv (.sl n r)) (hk : RunL Γ ops l ⟨(d, .sv (.raw (.int .i64 r.length))) :: t, h⟩ K) :
    RunL Γ ops ((⟨some d, .call { callee := .builtin .len, args := #[x], argTypes := #[S] }, ty, ps, af, none⟩, c) :: l) ⟨t, h⟩ K :=
  run_pure rfl (by simp only [stepP, hx]; exact ⟨he, hk⟩)
theorem q_leno {r : List SV} {S n T k : Nat} (he : (elOf Γ.P S).isSome = true) (hx : St.ev ⟨t, h⟩ x = .own k) (hh : h.lookup k = some (.row n T r)) (hk : RunL Γ ops l ⟨(d, .sv (.raw (.int .i64 r.length))) :: t, h⟩ K) :
    RunL Γ ops ((⟨some d, .call { callee := .builtin .len, args := #[x], argTypes := #[S] }, ty, ps, af, none⟩, c) :: l) ⟨t, h⟩ K :=
  run_pure rfl (by simp only [stepP, hx]; exact ⟨he, n, T, r, hh, hk⟩)
theorem q_lens {s : ByteArray} {S : Nat} (he : strOf Γ.P S = true) (hx : St.ev ⟨t, h⟩ x = .sv (.raw (.string s))) (hk : RunL Γ ops l ⟨(d, .sv (.raw (.int .i64 s.size))) :: t, h⟩ K) :
    RunL Γ ops ((⟨some d, .call { callee := .builtin .len, args := #[x], argTypes := #[S] }, ty, ps, af, none⟩, c) :: l) ⟨t, h⟩ K :=
  run_pure rfl (by simp only [stepP, hx]; exact ⟨he, hk⟩)
theorem q_min {p q : Int} {k k' : IntKind} {S : Array Nat} (hx : St.ev ⟨t, h⟩ x = .sv (.raw (.int k p))) (hy : St.ev ⟨t, h⟩ y = .sv (.raw (.int k' q))) (hk : RunL Γ ops l ⟨(d, .sv (.raw (.int k (if q < p then q else p)))) :: t, h⟩ K) :
    RunL Γ ops ((⟨some d, .call { callee := .builtin .min, args := #[x, y], argTypes := S }, ty, ps, af, none⟩, c) :: l) ⟨t, h⟩ K :=
  run_pure rfl (by simp only [stepP, hx, hy]; exact hk)
theorem q_max {p q : Int} {k k' : IntKind} {S : Array Nat} (hx : St.ev ⟨t, h⟩ x = .sv (.raw (.int k p))) (hy : St.ev ⟨t, h⟩ y = .sv (.raw (.int k' q))) (hk : RunL Γ ops l ⟨(d, .sv (.raw (.int k (if q > p then q else p)))) :: t, h⟩ K) :
    RunL Γ ops ((⟨some d, .call { callee := .builtin .max, args := #[x, y], argTypes := S }, ty, ps, af, none⟩, c) :: l) ⟨t, h⟩ K :=
  run_pure rfl (by simp only [stepP, hx, hy]; exact hk)
/-- Loads: of a value; of a struct; out of a box; out of a row of ours. -/
theorem q_ld (s : SV) {S : Nat} (hg : aggOf Γ.P S = some false) (hx : St.ev ⟨t, h⟩ x = .sv (.ptr s)) (h1 : s.one = true) (hk : RunL Γ ops l ⟨(d, .sv s) :: t, h⟩ K) : RunL Γ ops ((⟨some d, .load S x, ty, ps, af, none⟩, c + 1) :: l) ⟨t, h⟩ K :=
  run_read rfl (by omega) (by simp only [stepR, hx]; exact ⟨_, hg, fun _ => ⟨h1, hk⟩, fun h => by cases h⟩)
theorem q_lds (r : List SV) {S : Nat} (hg : aggOf Γ.P S = some true) (hx : St.ev ⟨t, h⟩ x = .sv (.ptr (.agg r))) (hs : szOf Γ.P S = some r.length) (hk : RunL Γ ops l ⟨(d, .sv (.agg r)) :: t, h⟩ K) : RunL Γ ops ((⟨some d, .load S x, ty, ps, af, none⟩, c + 1) :: l) ⟨t, h⟩ K :=
  run_read rfl (by omega) (by simp only [stepR, hx]; exact ⟨_, hg, (fun h => by cases h), fun _ => ⟨r, rfl, hs, hk⟩⟩)
theorem q_ldb (lv : LV) {S k j : Nat} {cells : List LV} (hg : aggOf Γ.P S = some false) (hx : St.ev ⟨t, h⟩ x = .ptr k j) (hh : h.lookup k = some (.box cells)) (hj : cells[j]? = some lv) (hk : RunL Γ ops l ⟨(d, lv) :: t, h⟩ K) : RunL Γ ops ((⟨some d, .load S x, ty, ps, af, none⟩, c + 1) :: l) ⟨t, h⟩ K :=
  run_read rfl (by omega) (by simp only [stepR, hx]; exact ⟨cells, hh, _, hg, fun _ => ⟨lv, hj, hk⟩, fun h => by cases h⟩)
theorem q_ldbs {r : List SV} {S k j n : Nat} {cells : List LV} (hg : aggOf Γ.P S = some true) (hx : St.ev ⟨t, h⟩ x = .ptr k j) (hh : h.lookup k = some (.box cells)) (hs : szOf Γ.P S = some n) (hr : svs ((cells.drop j).take n) = some r) (hl : r.length = n) (hk : RunL Γ ops l ⟨(d, .sv (.agg r)) :: t, h⟩ K) :
    RunL Γ ops ((⟨some d, .load S x, ty, ps, af, none⟩, c + 1) :: l) ⟨t, h⟩ K :=
  run_read rfl (by omega) (by simp only [stepR, hx]; exact ⟨cells, hh, _, hg, (fun h => by cases h), fun _ => ⟨n, hs, r, hr, hl, hk⟩⟩)
theorem q_lde {r : List SV} (s : SV) {S k n i T : Nat} (hg : aggOf Γ.P S = some false) (hx : St.ev ⟨t, h⟩ x = .eptr k n i 0) (hh : h.lookup k = some (.row n T r)) (hi : r[i]? = some s) (h1 : s.one = true) (hk : RunL Γ ops l ⟨(d, .sv s) :: t, h⟩ K) :
    RunL Γ ops ((⟨some d, .load S x, ty, ps, af, none⟩, c + 1) :: l) ⟨t, h⟩ K :=
  run_read rfl (by omega) (by simp only [stepR, hx]; exact ⟨T, r, s, hh, hi, _, hg, fun _ => .inl ⟨trivial, h1, hk⟩, fun h => by cases h⟩)
theorem q_ldef {r cs : List SV} (s : SV) {S k n i j T : Nat} (hg : aggOf Γ.P S = some false) (hx : St.ev ⟨t, h⟩ x = .eptr k n i j) (hh : h.lookup k = some (.row n T r)) (hi : r[i]? = some (.agg cs)) (hj : cs[j]? = some s) (hk : RunL Γ ops l ⟨(d, .sv s) :: t, h⟩ K) :
    RunL Γ ops ((⟨some d, .load S x, ty, ps, af, none⟩, c + 1) :: l) ⟨t, h⟩ K :=
  run_read rfl (by omega) (by simp only [stepR, hx]; exact ⟨T, r, _, hh, hi, _, hg, fun _ => .inr ⟨cs, s, rfl, hj, hk⟩, fun h => by cases h⟩)
theorem q_ldes {r cs : List SV} {S k n i T : Nat} (hg : aggOf Γ.P S = some true) (hx : St.ev ⟨t, h⟩ x = .eptr k n i 0) (hh : h.lookup k = some (.row n T r)) (hi : r[i]? = some (.agg cs)) (hs : szOf Γ.P S = some cs.length) (hk : RunL Γ ops l ⟨(d, .sv (.agg cs)) :: t, h⟩ K) :
    RunL Γ ops ((⟨some d, .load S x, ty, ps, af, none⟩, c + 1) :: l) ⟨t, h⟩ K :=
  run_read rfl (by omega) (by simp only [stepR, hx]; exact ⟨T, r, _, hh, hi, _, hg, (fun h => by cases h), fun _ => ⟨trivial, cs, rfl, hs, hk⟩⟩)
/-- A box: that no one writes; of ours. -/
theorem q_box (s : SV) {S : Nat} (hx : St.ev ⟨t, h⟩ x = .sv s) (h1 : (∃ r, s = .agg r ∧ 0 < r.length) ∨ s.one = true) (hk : RunL Γ ops l ⟨(d, .sv (.ptr s)) :: t, h⟩ K) : RunL Γ ops ((⟨some d, .box S x, ty, ps, af, none⟩, c + 2) :: l) ⟨t, h⟩ K :=
  run_x (ext := True) rfl (by omega) (fun _ => trivial) fun _ _ _ I hd => ok_box I rfl hd hx h1 hk
theorem q_boxs (r : List SV) {S : Nat} (hx : St.ev ⟨t, h⟩ x = .sv (.agg r)) (h1 : 0 < r.length) (hk : RunL Γ ops l ⟨(d, .sv (.ptr (.agg r))) :: t, h⟩ K) : RunL Γ ops ((⟨some d, .box S x, ty, ps, af, none⟩, c + 2) :: l) ⟨t, h⟩ K :=
  q_box _ hx (.inl ⟨r, rfl, h1⟩) hk
theorem q_boxo (s : SV) {S : Nat} {cells : List LV} (hx : St.ev ⟨t, h⟩ x = .sv s) (h1 : (∃ r, s = .agg r) ∨ s.one = true) (hf : St.free ⟨t, h⟩ d = true) (hi : Γ.inn d = none) (hc : s.cells.map .sv = cells) (hk : RunL Γ ops l ⟨(d, .ptr d 0) :: t, ins d (.box cells) h⟩ K) :
    RunL Γ ops ((⟨some d, .box S x, ty, ps, af, none⟩, c + 2) :: l) ⟨t, h⟩ K := by
  subst hc
  exact run_x (ext := True) rfl (by omega) (fun _ => trivial) fun _ _ _ I hd => ok_box_own I rfl rfl (by simpa [dstOk] using hd) hx h1 hf hi hk
theorem q_alloc (z : Value) {S : Nat} {cells : List LV} (hz : zeroOf Γ.P S = some z) (h1 : z.cells.toList.all (·.oneCell') = true) (hf : St.free ⟨t, h⟩ d = true) (hi : Γ.inn d = none) (hc : (z.cells.toList.map fun v => LV.sv (.raw v)) = cells) (hk : RunL Γ ops l ⟨(d, .ptr d 0) :: t, ins d (.box cells) h⟩ K) :
    RunL Γ ops ((⟨some d, .alloc S, ty, ps, af, none⟩, c + 2) :: l) ⟨t, h⟩ K := by
  subst hc
  exact run_x (ext := True) rfl (by omega) (fun _ => trivial) fun _ _ _ I hd => ok_alloc I rfl rfl (by simpa [dstOk] using hd) hz (by simpa using h1) hf hi hk
theorem q_lit {S e n len : Nat} (z : Value) {parts : Array (Nat × Operand)} (r : List SV) (he : elOf Γ.P S = some (e, n)) (hz : zeroOf Γ.P e = some z) (hn : 0 < n) (hlen : len = parts.size) (hbig : len * n ≤ 16777216) (hp : litParts 0 parts.toList = true)
    (hl : parts.toList.map (fun p => St.ev ⟨t, h⟩ p.2) = r.map LV.sv) (h1 : ∀ s ∈ r, ((∃ c, s = .agg c) ∨ s.one = true) ∧ s.cells.length = n) (hk : RunL Γ ops l ⟨(d, .sv (.sl n r)) :: t, h⟩ K) :
    RunL Γ ops ((⟨some d, .buildSlice S len parts, ty, ps, af, none⟩, c + 2) :: l) ⟨t, h⟩ K :=
  run_x (ext := True) rfl (by omega) (fun _ => trivial) fun _ _ _ I hd => ok_buildSlice I rfl hd he hz hn hlen hbig hp hl h1 hk
/-- The one element that an append adds. -/
theorem q_lit1 {S e n : Nat} (z : Value) (s : SV) (he : elOf Γ.P S = some (e, n)) (hz : zeroOf Γ.P e = some z) (hn : 0 < n) (hbig : n ≤ 16777216) (hx : St.ev ⟨t, h⟩ x = .sv s) (h1 : (∃ c, s = .agg c) ∨ s.one = true) (h2 : s.cells.length = n) (hk : RunL Γ ops l ⟨(d, .sv (.sl n [s])) :: t, h⟩ K) :
    RunL Γ ops ((⟨some d, .buildSlice S 1 #[(0, x)], ty, ps, af, none⟩, c + 2) :: l) ⟨t, h⟩ K :=
  q_lit z [s] he hz hn rfl (by omega) rfl (by simp [hx]) (by simp; exact ⟨h1, h2⟩) hk
theorem q_make {S e n by_ m : Nat} {kl kc : IntKind} (z : Value) (s : SV) (he : elOf Γ.P S = some (e, n)) (hn : 0 < n) (hz : zeroOf Γ.P e = some z) (hzn : z.cells.size = n) (hb : bytOf Γ.P e = some by_)
    (hx : St.ev ⟨t, h⟩ x = .sv (.raw (.int kl m))) (hy : St.ev ⟨t, h⟩ y = .sv (.raw (.int kc m))) (hf : St.free ⟨t, h⟩ d = true) (hi : Γ.inn d = none)
    (hs : (z = .agg z.cells ∧ s = .agg (z.cells.toList.map .raw) ∧ z.cells.toList.all (·.oneCell') = true) ∨ (z.oneCell' = true ∧ s = .raw z)) (h63 : m ≤ maxLen) (hbytes : by_ * m ≤ 281474976710656)
    (hk : RunL Γ ops l ⟨(d, .own d) :: t, ins d (.row n e (List.replicate m s)) h⟩ K) : RunL Γ ops ((⟨some d, .makeSlice S x y, ty, ps, af, none⟩, c + 2) :: l) ⟨t, h⟩ K :=
  run_x (ext := True) rfl (by omega) (fun _ => trivial) fun _ _ _ I hd => ok_make I rfl rfl (by simpa [dstOk] using hd) he hn hz hzn hb hx hy hf hi (hs.imp (fun ⟨a, b, c⟩ => ⟨a, b, by simpa using c⟩) id) h63 hbytes hk
theorem q_app {S e n by_ k : Nat} (z : Value) {r q : List SV} (he : elOf Γ.P S = some (e, n)) (hz : zeroOf Γ.P e = some z) (hzn : z.cells.size = n) (hb : bytOf Γ.P e = some by_)
    (hx : St.ev ⟨t, h⟩ x = .own k) (hh : h.lookup k = some (.row n e r)) (hf : St.free ⟨t, h⟩ d = true) (hi : Γ.inn d = none) (hy : St.ev ⟨t, h⟩ y = .sv (.sl n q)) (hq : q ≠ []) (h1 : ∀ s ∈ q, ((∃ c, s = .agg c) ∨ s.one = true)) (h63 : r.length + q.length ≤ maxLen) (hbytes : (r.length + q.length) * by_ ≤ 140737488355328)
    (hk : RunL Γ ops l ⟨(d, .own d) :: t, ins d (.row n e (r ++ q)) (ins d (.row n e r) (dropH k h))⟩ K) :
    RunL Γ ops ((⟨some d, .call { callee := .builtin .append, args := #[x, y], argTypes := #[S, S] }, ty, ps, af, none⟩, 2) :: l) ⟨t, h⟩ K :=
  run_x (ext := False) rfl (by omega) (fun h => (h rfl).elim) fun _ _ _ I hd => ok_append I rfl rfl (by simpa [dstOk] using hd) he hz hzn hb hx hh rfl hf hi hy hq h1 h63 hbytes hk
theorem q_app0 {S e n by_ : Nat} (z : Value) {q : List SV} (he : elOf Γ.P S = some (e, n)) (hn : 0 < n) (hz : zeroOf Γ.P e = some z) (hzn : z.cells.size = n) (hb : bytOf Γ.P e = some by_)
    (hx : St.ev ⟨t, h⟩ x = .sv (.raw (.slice none 0 0))) (hf : St.free ⟨t, h⟩ d = true) (hi : Γ.inn d = none) (hy : St.ev ⟨t, h⟩ y = .sv (.sl n q)) (hq : q ≠ []) (h1 : ∀ s ∈ q, ((∃ c, s = .agg c) ∨ s.one = true)) (h63 : q.length ≤ maxLen) (hbytes : q.length * by_ ≤ 140737488355328)
    (hk : RunL Γ ops l ⟨(d, .own d) :: t, ins d (.row n e q) (ins d (.row n e []) h)⟩ K) :
    RunL Γ ops ((⟨some d, .call { callee := .builtin .append, args := #[x, y], argTypes := #[S, S] }, ty, ps, af, none⟩, 2) :: l) ⟨t, h⟩ K :=
  run_x (ext := False) rfl (by omega) (fun h => (h rfl).elim) fun _ _ _ I hd => ok_append_nil I rfl rfl (by simpa [dstOk] using hd) he hn hz hzn hb hx hf hi hy hq h1 h63 hbytes hk
/-- A store of one cell into a box of ours. -/
theorem q_st {S k j : Nat} {cells cells' : List LV} (lv : LV) (hs : szOf Γ.P S = some 1) (hx : St.ev ⟨t, h⟩ x = .ptr k j) (hh : h.lookup k = some (.box cells)) (hj : j < cells.length) (hy : St.ev ⟨t, h⟩ y = lv) (h1 : ∃ s, lv = .sv s ∧ s.one = true) (hc : cells.take j ++ [lv] ++ cells.drop (j + 1) = cells') (hk : RunL Γ ops l ⟨t, ins k (.box cells') h⟩ K) :
    RunL Γ ops ((⟨none, .store S x y, ty, ps, af, none⟩, 2) :: l) ⟨t, h⟩ K := by
  subst hc
  refine run_x (ext := False) rfl (by omega) (fun h => (h rfl).elim) fun a w ρ I hd => ok_store_box (new := [lv]) I rfl hd hx hh hs (by simp; omega) ?_ hk
  obtain ⟨s, rfl, hs1⟩ := h1
  have hY := I.ev y
  rw [hy] at hY
  have h1 := Rep.oneCell hY hs1
  rw [oneCell_cells h1]
  refine ⟨rfl, fun i lv u hi hu => ?_⟩
  have : i = 0 := by cases i with | zero => rfl | succ i => simp at hi
  subst this
  simp at hi hu
  subst hi hu
  exact ⟨hY, h1⟩
/-- A store of a row of ours into a box of ours. -/
theorem q_sto {S k j k' : Nat} {cells cells' : List LV} {n T : Nat} {r : List SV} (hs : szOf Γ.P S = some 1) (hx : St.ev ⟨t, h⟩ x = .ptr k j) (hh : h.lookup k = some (.box cells)) (hj : j < cells.length) (hy : St.ev ⟨t, h⟩ y = .own k') (hr : h.lookup k' = some (.row n T r)) (hc : cells.take j ++ [LV.own k'] ++ cells.drop (j + 1) = cells') (hk : RunL Γ ops l ⟨t, ins k (.box cells') h⟩ K) :
    RunL Γ ops ((⟨none, .store S x y, ty, ps, af, none⟩, 2) :: l) ⟨t, h⟩ K := by
  subst hc
  refine run_x (ext := False) rfl (by omega) (fun h => (h rfl).elim) fun a w ρ I hd => ok_store_box (new := [.own k']) I rfl hd hx hh hs (by simp; omega) ?_ hk
  have hY := I.ev y
  rw [hy] at hY
  have hY' : a.eval y = ρ k' := hY
  obtain ⟨hz, xs, vals, hown, _⟩ := I.ent k' _ hr
  have h1 : (a.eval y).oneCell' = true := by
    rw [hY']
    rcases hown.2 with ⟨h0, _⟩ | ⟨g, cap, cur, h0, _⟩ <;> rw [h0] <;> rfl
  rw [oneCell_cells h1]
  refine ⟨rfl, fun i lv u hi hu => ?_⟩
  have : i = 0 := by cases i with | zero => rfl | succ i => simp at hi
  subst this
  simp at hi hu
  subst hi hu
  exact ⟨hY, h1⟩
/-- A store of a struct into a box of ours. -/
theorem q_sts {S k j : Nat} {cells cells' : List LV} (r : List SV) (hx : St.ev ⟨t, h⟩ x = .ptr k j) (hh : h.lookup k = some (.box cells)) (hy : St.ev ⟨t, h⟩ y = .sv (.agg r)) (hs : szOf Γ.P S = some r.length) (hj : j + r.length ≤ cells.length) (hc : cells.take j ++ r.map .sv ++ cells.drop (j + r.length) = cells') (hk : RunL Γ ops l ⟨t, ins k (.box cells') h⟩ K) :
    RunL Γ ops ((⟨none, .store S x y, ty, ps, af, none⟩, 2) :: l) ⟨t, h⟩ K := by
  subst hc
  refine run_x (ext := False) rfl (by omega) (fun h => (h rfl).elim) fun a w ρ I hd => ok_store_box (new := r.map .sv) I rfl hd hx hh (by simpa using hs) (by simpa using hj) ?_ (by simpa [St.put] using hk)
  have hY := I.ev y
  rw [hy] at hY
  obtain ⟨h1, h2⟩ := sv_cells hY (.inl ⟨r, rfl⟩)
  refine ⟨by rw [h1]; simp [SV.cells], fun i lv u hi hu => ?_⟩
  rw [List.getElem?_map] at hi
  cases hq : r[i]? with
  | none => simp [hq] at hi
  | some q => simp [hq] at hi; subst hi; exact h2 i q u hq hu
/-- A store of a whole element into a row of ours. -/
theorem q_ste {S k i n T : Nat} {r : List SV} {s s' : SV} (hs : szOf Γ.P S = some n) (hx : St.ev ⟨t, h⟩ x = .eptr k n i 0) (hh : h.lookup k = some (.row n T r)) (hi : r[i]? = some s) (hy : St.ev ⟨t, h⟩ y = .sv s') (h1 : (∃ c, s' = .agg c) ∨ s'.one = true) (h2 : s'.cells.length = n)
    (hk : RunL Γ ops l ⟨t, ins k (.row n T (r.set i s')) h⟩ K) : RunL Γ ops ((⟨none, .store S x y, ty, ps, af, none⟩, 2) :: l) ⟨t, h⟩ K := by
  refine run_x (ext := False) rfl (by omega) (fun h => (h rfl).elim) fun a w ρ I hd => ?_
  have hY := I.ev y
  rw [hy] at hY
  obtain ⟨h3, h4⟩ := sv_cells hY h1
  have hsz : (a.eval y).cells.size = n := by rw [h3, h2]
  refine ok_store_row (s' := s') I rfl hd hx hh hi (by rw [hsz]; exact hs) (by omega) ?_ ?_ hk
  · intro u hu
    obtain ⟨m, hm⟩ := List.getElem?_of_mem hu
    have hm' : (a.eval y).cells[m]? = some u := by simpa using hm
    have hlt : m < s'.cells.length := by rw [← h3]; exact (Array.getElem?_eq_some_iff.1 hm').1
    exact (h4 m _ u (List.getElem?_eq_getElem hlt) hm').2
  · intro v _ _
    refine ⟨a.eval y, hY, hsz, fun m hm => ?_⟩
    rw [if_pos (by omega)]; simp
/-- A store into a field of an element of a row of ours. -/
theorem q_stef {S k i j n T : Nat} {r cs : List SV} {s' : SV} (hs : szOf Γ.P S = some 1) (hx : St.ev ⟨t, h⟩ x = .eptr k n i j) (hh : h.lookup k = some (.row n T r)) (hi : r[i]? = some (.agg cs)) (hj : j < cs.length) (hn : cs.length = n) (hy : St.ev ⟨t, h⟩ y = .sv s') (h1 : s'.one = true)
    (hk : RunL Γ ops l ⟨t, ins k (.row n T (r.set i (.agg (cs.set j s')))) h⟩ K) : RunL Γ ops ((⟨none, .store S x y, ty, ps, af, none⟩, 2) :: l) ⟨t, h⟩ K := by
  refine run_x (ext := False) rfl (by omega) (fun h => (h rfl).elim) fun a w ρ I hd => ?_
  have hY := I.ev y
  rw [hy] at hY
  have h2 := Rep.oneCell hY h1
  have hc := oneCell_cells h2
  refine ok_store_row (s' := .agg (cs.set j s')) I rfl hd hx hh hi (by rw [hc]; exact hs) (by rw [hc]; simp; omega) ?_ ?_ hk
  · rw [hc]; intro u hu; simp at hu; subst hu; exact h2
  · intro v hv hvs
    obtain ⟨vs, rfl, hsz⟩ := agg_inv hv
    cases hv with
    | agg _ _ hn' h1' hr' =>
      refine ⟨.agg (vs.setIfInBounds j (a.eval y)), Rep.agg _ _ (by simp; omega) (fun m u hu => ?_) (fun m q u hq hu => ?_), by simpa [Value.cells] using hvs, fun m hm => ?_⟩
      · rw [Array.getElem?_setIfInBounds] at hu
        split at hu
        · split at hu
          · cases hu; exact h2
          · cases hu
        · exact h1' m u hu
      · rw [Array.getElem?_setIfInBounds] at hu
        rw [List.getElem?_set] at hq
        by_cases hjm : j = m
        · rw [if_pos hjm] at hu hq
          subst hjm
          rw [if_pos (by omega)] at hu hq
          cases hu; cases hq; exact hY
        · rw [if_neg hjm] at hu hq
          exact hr' m q u hq hu
      · rw [hc]
        simp only [Value.cells, Array.getElem?_setIfInBounds]
        by_cases hjm : j = m
        · subst hjm
          rw [if_pos rfl, if_pos (by omega), if_pos (by simp)]; simp
        · rw [if_neg hjm, if_neg (by simp; omega)]
/-- A function with a body of its own. -/
def Calb (P : Program) (f : Nat) : Prop := ∃ fn, P.funcs[f]? = some fn ∧ (fn.name == "runtime.NumGoroutine") = false ∧ fn.body.isNone = false
/-- A call. -/
theorem q_call {f : Nat} {args : Array Operand} {ts : Array Nat} {as : List SV} {r : SV} (hc : PFn Γ.P f as r) (hcl : Calb Γ.P f)
    (ha : lends h (args.toList.map (St.ev ⟨t, h⟩)) = some as) (hr : (allSv (args.toList.map (St.ev ⟨t, h⟩)) || r.scal) = true) (hk : RunL Γ ops l ⟨(d, .sv r) :: t, h⟩ K) :
    RunL Γ ops ((⟨some d, .call { callee := .value (.func f), args := args, argTypes := ts }, ty, ps, af, none⟩, c + 2) :: l) ⟨t, h⟩ K :=
  let ⟨_, hf, hname, hb⟩ := hcl
  run_x (ext := True) rfl (by omega) (fun _ => trivial) fun _ _ _ I hd => ok_call I rfl rfl hd hf hname hb ha hr hc hk
/-- A call of a function that a slot holds; nothing is captured. -/
theorem q_callv {f : Nat} {y : Operand} {args : Array Operand} {ts : Array Nat} {as : List SV} {r : SV} (hc : PFn Γ.P f as r) (hcl : Calb Γ.P f) (hy : St.ev ⟨t, h⟩ y = .sv (.raw (.func (.func f) #[] #[])))
    (ha : lends h (args.toList.map (St.ev ⟨t, h⟩)) = some as) (hr : (allSv (args.toList.map (St.ev ⟨t, h⟩)) || r.scal) = true) (hk : RunL Γ ops l ⟨(d, .sv r) :: t, h⟩ K) :
    RunL Γ ops ((⟨some d, .call { callee := .value y, args := args, argTypes := ts }, ty, ps, af, none⟩, c + 2) :: l) ⟨t, h⟩ K :=
  let ⟨_, hf, hname, hb⟩ := hcl
  run_x (ext := True) rfl (by omega) (fun _ => trivial) fun _ _ _ I hd => ok_call I rfl hy hd hf hname hb ha hr hc hk
end
end Go.Abs
