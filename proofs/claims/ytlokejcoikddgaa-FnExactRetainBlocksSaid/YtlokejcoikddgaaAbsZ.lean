/- A store into a box or a row of ours, a row made; and what is given up of what is known. No condition. -/
import Derived.Test.YtlokejcoikddgaaAbsY
namespace Go.Abs
open Go Go.RowKit Go.Eager

theorem getElem?_spl {α : Type} (l vs : List α) (j m : Nat) (h : j + vs.length ≤ l.length) : (l.take j ++ vs ++ l.drop (j + vs.length))[m]? = if j ≤ m ∧ m < j + vs.length then vs[m - j]? else l[m]? := by
  have hl : (l.take j).length = j := by simp; omega
  by_cases h1 : m < j
  · rw [if_neg (by omega), List.append_assoc, List.getElem?_append_left (by omega), List.getElem?_take, if_pos h1]
  · by_cases h2 : m < j + vs.length
    · rw [if_pos (by omega), List.append_assoc, List.getElem?_append_right (by omega), hl, List.getElem?_append_left (by omega)]
    · rw [if_neg (by omega), List.getElem?_append_right (by simp; omega), List.getElem?_drop]
      congr 1
      simp; omega
theorem length_spl {α : Type} (l vs : List α) (j : Nat) (h : j + vs.length ≤ l.length) : (l.take j ++ vs ++ l.drop (j + vs.length)).length = l.length := by
  simp; omega

theorem run_storeAt {P : Program} {t : TypeId} {v : Value} {b j : Nat} {cur : Array Value} {T : TypeId} {w : World} (hs : szOf P t = some v.cells.size) (hg : w.heap[b]? = some (.cells cur T (0, 0)))
    (hfit : j + v.cells.size ≤ cur.size) (h1 : ∀ u ∈ v.cells.toList, u.oneCell' = true) :
    (Instr.storeAt t (.pointer (some ⟨b, j, none⟩)) v).run P w = .ok () (w.setRow b (cur.toList.take j ++ v.cells.toList ++ cur.toList.drop (j + v.cells.toList.length)).toArray) := by
  have h := run_storeCells_at P b j T v.cells.toList 0 cur w hg (by simpa using hfit) h1
  simp only [Nat.add_zero] at h
  simp [Instr.storeAt, Instr.sureAddr, storeVar, run_sizeOf hs, h]

section
variable {Γ : Ctx} {σ : St} {ρ : Nat → Value} {a : Act} {w : World}

theorem kp_same {k : Nat} {e e0 : Ent} {b : Nat} {cs : Array Value} (hk : σ.h.lookup k = some e0) (hb : blk (ρ k) = some b) : Kp w (Own Γ σ.h ρ) (w.setRow b cs) (Own Γ (ins k e σ.h) ρ) := by
  intro b' hlt hno
  refine ⟨setRow_other w b b' cs (fun h => hno (.inr ⟨k, e0, hk, by rw [hb, h]⟩)), ?_⟩
  rintro (hO | ⟨k1, e1, hk1, hb1⟩)
  · exact hno (.inl hO)
  · rw [lookup_ins] at hk1
    by_cases hkk : k1 = k
    · subst hkk; exact hno (.inr ⟨k1, e0, hk, hb1⟩)
    · rw [if_neg hkk] at hk1; exact hno (.inr ⟨k1, e1, hk1, hb1⟩)

/-- A block of ours is written: the frame and the entry anew. -/
theorem Iv.write (I : Iv Γ σ ρ a w) {k : Nat} {e e0 : Ent} {b : Nat} {cs : Array Value} (hk : σ.h.lookup k = some e0) (hb : blk (ρ k) = some b)
    (he : ERep (w.setRow b cs) (Own Γ (ins k e σ.h) ρ) ρ k e) : Iv Γ ⟨σ.t, ins k e σ.h⟩ ρ a (w.setRow b cs) := by
  have hsz : (w.setRow b cs).heap.size = w.heap.size := by simp [World.setRow]
  have h := I.heap (t' := σ.t) (k := k) (e := e) (v' := ρ k) (w' := w.setRow b cs) (fun t lv h => .inl h) (.inl rfl) ⟨rfl, rfl, rfl, by rw [hsz]; exact Nat.le_refl _⟩
    (fun b' _ hne => setRow_other w b b' cs (fun h => hne e0 hk (by rw [hb, h]))) (fun b' hb' => ⟨by rw [hsz]; exact (I.new k e0 b' hk hb').2, .inr ⟨e0, hk, hb'⟩⟩) (fun v hv => I.inn k v hv)
    (by rw [upd_self]; exact he)
  rw [upd_self] at h
  exact h

/-- A store into a box of ours. -/
theorem ok_store_box (I : Iv Γ σ ρ a w) {o : Oper} {t k j : Nat} {x y : Operand} {cells new : List LV} {K : St → Prop} (ho : o.op = .store t x y) (hdn : dstOk Γ o = true)
    (hx : σ.ev x = .ptr k j) (hk : σ.h.lookup k = some (.box cells)) (hs : szOf Γ.P t = some new.length) (hfit : j + new.length ≤ cells.length)
    (hnew : (a.eval y).cells.size = new.length ∧ ∀ (i : Nat) (lv : LV) (u : Value), new[i]? = some lv → (a.eval y).cells[i]? = some u → LRep w (Own Γ σ.h ρ) ρ lv u ∧ u.oneCell' = true)
    (hK : K ((⟨σ.t, ins k (.box (cells.take j ++ new ++ cells.drop (j + new.length))) σ.h⟩ : St).put o.dst .dead)) : XOk Γ a w o False K := by
  obtain ⟨hn1, hn2⟩ := hnew
  have hX := I.ev x
  rw [hx] at hX
  obtain ⟨b, hr, hxv⟩ := hX
  obtain ⟨b', T, cur, hr', hcur, hsz, hcells⟩ := I.ent k _ hk
  rw [hr] at hr'
  simp only [Value.pointer.injEq, Option.some.injEq, Addr.mk.injEq, and_true] at hr'
  subst hr'
  generalize hv : a.eval y = v at hn1 hn2
  have h1 : ∀ u ∈ v.cells.toList, u.oneCell' = true := by
    intro u hu
    obtain ⟨i, hi⟩ := List.getElem?_of_mem hu
    have hi' : v.cells[i]? = some u := by simpa using hi
    have hlt : i < new.length := by rw [← hn1]; exact (Array.getElem?_eq_some_iff.1 hi').1
    exact (hn2 i _ u (List.getElem?_eq_getElem hlt) hi').2
  have run0 := run_storeAt (P := Γ.P) (t := t) (v := v) (b := b) (j := j) (by rw [hs, hn1]) hcur (by rw [hn1, hsz]; exact hfit) h1
  have run : (execOp a.eval o).run Γ.P w = .ok .skip (w.setRow b (cur.toList.take j ++ v.cells.toList ++ cur.toList.drop (j + v.cells.toList.length)).toArray) := by
    simp [execOp, ho, hxv, hv] at run0 ⊢
    simp [run0]
  unfold XOk oN
  rw [run]
  have hbk : blk (ρ k) = some b := by rw [hr]; rfl
  have hvl : v.cells.toList.length = new.length := by simpa using hn1
  have kp := kp_same (Γ := Γ) (w := w) (e := .box (cells.take j ++ new ++ cells.drop (j + new.length))) (cs := (cur.toList.take j ++ v.cells.toList ++ cur.toList.drop (j + v.cells.toList.length)).toArray) hk hbk
  refine ⟨_, hK, ⟨ρ, (I.write (e := .box (cells.take j ++ new ++ cells.drop (j + new.length))) hk hbk ?_).put (dstOk_spec hdn) trivial⟩, fun h => h.elim⟩
  refine ⟨b, T, _, hr, setRow_heap w b cur _ T (0, 0) hcur, ?_, ?_⟩
  · rw [length_spl _ _ _ hfit, List.size_toArray, length_spl _ _ _ (by rw [hvl]; simpa [hsz] using hfit)]
    simpa using hsz
  · intro i lv u hi hu
    rw [getElem?_spl _ _ _ _ hfit] at hi
    rw [List.getElem?_toArray, getElem?_spl _ _ _ _ (by rw [hvl]; simpa [hsz] using hfit), hvl] at hu
    by_cases hh : j ≤ i ∧ i < j + new.length
    · rw [if_pos hh] at hi hu
      have := hn2 (i - j) lv u hi (by simpa using hu)
      exact ⟨this.1.kp kp, this.2⟩
    · rw [if_neg hh] at hi hu
      have := hcells i lv u hi (by simpa using hu)
      exact ⟨this.1.kp kp, this.2⟩

/-- A store into an element of a row of ours. -/
theorem ok_store_row (I : Iv Γ σ ρ a w) {o : Oper} {t k sz i j T : Nat} {x y : Operand} {l : List SV} {s s' : SV} {K : St → Prop} (ho : o.op = .store t x y) (hdn : dstOk Γ o = true)
    (hx : σ.ev x = .eptr k sz i j) (hk : σ.h.lookup k = some (.row sz T l)) (hi : l[i]? = some s) (hs : szOf Γ.P t = some (a.eval y).cells.size) (hfit : j + (a.eval y).cells.size ≤ sz) (h1 : ∀ u ∈ (a.eval y).cells.toList, u.oneCell' = true)
    (hnew : ∀ v, Rep w (Own Γ σ.h ρ) s v → v.cells.size = sz → ∃ v', Rep w (Own Γ σ.h ρ) s' v' ∧ v'.cells.size = sz ∧ ∀ m, m < sz → v'.cells[m]? = if j ≤ m ∧ m < j + (a.eval y).cells.size then (a.eval y).cells[m - j]? else v.cells[m]?)
    (hK : K ((⟨σ.t, ins k (.row sz T (l.set i s')) σ.h⟩ : St).put o.dst .dead)) : XOk Γ a w o False K := by
  have hX := I.ev x
  rw [hx] at hX
  obtain ⟨b, n, c, hr, hxv⟩ := hX
  obtain ⟨hz, xs, vals, hown, hrep⟩ := I.ent k _ hk
  generalize hv : a.eval y = v at hs hfit h1 hnew
  have hlt := (List.getElem?_eq_some_iff.1 hi).1
  rw [hr] at hown
  rcases hown.2 with ⟨h0, _⟩ | ⟨g, cap, cur, h0, hbg, hcur, hnc, hcm, hcs, htake⟩
  · simp at h0
  simp only [Value.slice.injEq, Option.some.injEq, Addr.mk.injEq, and_true] at h0
  obtain ⟨rfl, rfl, rfl⟩ := h0
  have hxl : xs.length = l.length * sz := hown.1
  have hle : (i + 1) * sz ≤ l.length * sz := Nat.mul_le_mul_right _ hlt
  rw [Nat.add_mul] at hle
  have hle2 : l.length * sz ≤ c * sz := Nat.mul_le_mul_right _ hnc
  have run0 := run_storeAt (P := Γ.P) (t := t) (v := v) (b := b) (j := i * sz + j) hs hcur (by omega) h1
  have run : (execOp a.eval o).run Γ.P w = .ok .skip (w.setRow b (cur.toList.take (i * sz + j) ++ v.cells.toList ++ cur.toList.drop (i * sz + j + v.cells.toList.length)).toArray) := by
    simp [execOp, ho, hxv, hv] at run0 ⊢
    simp [run0]
  unfold XOk oN
  rw [run]
  have hbk : blk (ρ k) = some b := by rw [hr]; rfl
  have hcl : i * sz + j + v.cells.toList.length ≤ cur.toList.length := by simp; omega
  have hxl' : i * sz + j + v.cells.toList.length ≤ xs.length := by simp; omega
  have kp := kp_same (Γ := Γ) (w := w) (e := .row sz T (l.set i s')) (cs := (cur.toList.take (i * sz + j) ++ v.cells.toList ++ cur.toList.drop (i * sz + j + v.cells.toList.length)).toArray) hk hbk
  obtain ⟨r1, r2, r3⟩ := hrep i s hi
  obtain ⟨v', q1, q2, q3⟩ := hnew (vals i) r1 r2
  refine ⟨_, hK, ⟨ρ, (I.write (e := .row sz T (l.set i s')) hk hbk ?_).put (dstOk_spec hdn) trivial⟩, fun h => h.elim⟩
  refine ⟨hz, xs.take (i * sz + j) ++ v.cells.toList ++ xs.drop (i * sz + j + v.cells.toList.length), fun m => if m = i then v' else vals m, ?_, ?_⟩
  · rw [List.length_set, hr]
    refine ⟨by rw [length_spl _ _ _ hxl']; exact hxl, .inr ⟨b, c, _, rfl, hbg, setRow_heap w b cur _ T (0, 0) hcur, hnc, hcm, ?_, ?_⟩⟩
    · rw [List.size_toArray, length_spl _ _ _ hcl]; simpa using hcs
    · apply List.ext_getElem?
      intro m
      rw [List.getElem?_take, List.toList_toArray, getElem?_spl _ _ _ _ hcl, getElem?_spl _ _ _ _ hxl']
      have hcx : ∀ m, m < l.length * sz → cur.toList[m]? = xs[m]? := fun m hm => by rw [← htake, List.getElem?_take, if_pos hm]
      by_cases hm : m < l.length * sz
      · rw [if_pos hm]
        split
        · rfl
        · exact hcx m hm
      · rw [if_neg hm, if_neg (by simp; omega), List.getElem?_eq_none (by omega)]
  · intro m sm hm
    rw [List.getElem?_set] at hm
    by_cases him : i = m
    · subst him
      rw [if_pos rfl, if_pos hlt] at hm
      simp only [Option.some.injEq] at hm
      subst hm
      simp only [if_true]
      refine ⟨q1.kp kp, q2, fun jj u hu => ?_⟩
      have hjs : jj < sz := by have := (Array.getElem?_eq_some_iff.1 hu).1; omega
      rw [q3 jj hjs] at hu
      rw [getElem?_spl _ _ _ _ hxl']
      simp only [Array.length_toList]
      by_cases hh : j ≤ jj ∧ jj < j + v.cells.size
      · rw [if_pos hh] at hu
        rw [if_pos (by omega)]
        rw [show i * sz + jj - (i * sz + j) = jj - j by omega]; simpa using hu
      · rw [if_neg hh] at hu
        rw [if_neg (by omega)]
        exact r3 jj u hu
    · rw [if_neg him] at hm
      rw [show (fun m => if m = i then v' else vals m) m = vals m from if_neg (Ne.symm him)]
      obtain ⟨p1, p2, p3⟩ := hrep m sm hm
      refine ⟨p1.kp kp, p2, fun jj u hu => ?_⟩
      have hjs : jj < sz := by have := (Array.getElem?_eq_some_iff.1 hu).1; omega
      have hh := p3 jj u hu
      rw [getElem?_spl _ _ _ _ hxl']
      simp only [Array.length_toList]
      rw [if_neg ?_]
      · exact hh
      · rcases Nat.lt_or_gt_of_ne him with h | h
        · have : (i + 1) * sz ≤ m * sz := Nat.mul_le_mul_right _ h
          rw [Nat.add_mul] at this; omega
        · have : (m + 1) * sz ≤ i * sz := Nat.mul_le_mul_right _ h
          rw [Nat.add_mul] at this; omega

/-- What is known may be given up. -/
theorem Iv.sub (I : Iv Γ σ ρ a w) {σ' : St} (ht : ∀ t lv, σ'.t.lookup t = some lv → σ.t.lookup t = some lv) (hh : ∀ k e, σ'.h.lookup k = some e → σ.h.lookup k = some e) : Iv Γ σ' ρ a w := by
  have kp : Kp w (Own Γ σ.h ρ) w (Own Γ σ'.h ρ) := fun b _ hno => ⟨rfl, fun h => hno (h.imp id fun ⟨k, e, hk, hb⟩ => ⟨k, e, hh k e hk, hb⟩)⟩
  exact ⟨I.dfr, I.size, I.frm, fun t lv h => (I.tmp t lv (ht t lv h)).kp kp, fun k e hk => (I.ent k e (hh k e hk)).step kp (fun _ _ => rfl) rfl (fun _ _ _ _ _ _ h => h),
    fun k e b hk hb => I.new k e b (hh k e hk) hb, fun k k' e e' b h1 h2 => I.sep k k' e e' b (hh _ _ h1) (hh _ _ h2), I.out, I.inn⟩

theorem Own.sub {h h' : List (Nat × Ent)} (hh : ∀ k e, h'.lookup k = some e → h.lookup k = some e) : Kp w (Own Γ h ρ) w (Own Γ h' ρ) := fun _ _ hno => ⟨rfl, fun q => hno (q.imp id fun ⟨k, e, hk, hb⟩ => ⟨k, e, hh k e hk, hb⟩)⟩

def dropH (k : Nat) (h : List (Nat × Ent)) : List (Nat × Ent) := h.filter fun p => p.1 != k
theorem dropH_lookup {k k' : Nat} {e : Ent} : ∀ {h : List (Nat × Ent)}, (dropH k h).lookup k' = some e → h.lookup k' = some e ∧ k' ≠ k
  | [], h => by simp [dropH] at h
  | (k1, e1) :: l, h => by
    by_cases h1 : k1 = k
    · subst h1
      have hd : dropH k1 ((k1, e1) :: l) = dropH k1 l := by simp [dropH]
      rw [hd] at h
      obtain ⟨h2, h3⟩ := dropH_lookup h
      refine ⟨?_, h3⟩
      rw [List.lookup_cons]
      have : (k' == k1) = false := by simpa using h3
      simp only [this]; exact h2
    · have hd : dropH k ((k1, e1) :: l) = (k1, e1) :: dropH k l := by simp [dropH, h1]
      rw [hd, List.lookup_cons] at h
      rw [List.lookup_cons]
      by_cases h2 : k' = k1
      · subst h2
        simp only [BEq.rfl] at h ⊢
        exact ⟨h, h1⟩
      · have : (k' == k1) = false := by simpa using h2
        simp only [this] at h ⊢
        exact dropH_lookup h

/-- An entry of ours under another name. -/
theorem Iv.rekey (I : Iv Γ σ ρ a w) {k d : Nat} {e : Ent} (hf : σ.free d = true) (hk : σ.h.lookup k = some e) (hi : Γ.inn d = none) : Iv Γ ⟨σ.t, ins d e (dropH k σ.h)⟩ (upd ρ d (ρ k)) a w := by
  obtain ⟨f1, f2, f3⟩ := free_spec hf
  have hl : ∀ k1 e1, (ins d e (dropH k σ.h)).lookup k1 = some e1 → (k1 = d ∧ e1 = e) ∨ (k1 ≠ d ∧ k1 ≠ k ∧ σ.h.lookup k1 = some e1) := by
    intro k1 e1 h
    rw [lookup_ins] at h
    by_cases h1 : k1 = d
    · rw [if_pos h1] at h; cases h; exact .inl ⟨h1, rfl⟩
    · rw [if_neg h1] at h
      exact .inr ⟨h1, (dropH_lookup h).2, (dropH_lookup h).1⟩
  have kp : Kp w (Own Γ σ.h ρ) w (Own Γ (ins d e (dropH k σ.h)) (upd ρ d (ρ k))) := by
    intro b _ hno
    refine ⟨rfl, ?_⟩
    rintro (hO | ⟨k1, e1, hk1, hb1⟩)
    · exact hno (.inl hO)
    · rcases hl k1 e1 hk1 with ⟨rfl, rfl⟩ | ⟨h1, h2, h3⟩
      · rw [upd_at] at hb1; exact hno (.inr ⟨k, e1, hk, hb1⟩)
      · rw [upd_ne _ _ h1] at hb1; exact hno (.inr ⟨k1, e1, h3, hb1⟩)
  have kc : ∀ k1 e1, σ.h.lookup k1 = some e1 → ∀ cells, e1 = .box cells → ∀ (j : Nat) (lv : LV) (v : Value), cells[j]? = some lv → LRep w (Own Γ (ins d e (dropH k σ.h)) (upd ρ d (ρ k))) ρ lv v → LRep w (Own Γ (ins d e (dropH k σ.h)) (upd ρ d (ρ k))) (upd ρ d (ρ k)) lv v := by
    intro k1 e1 hk1 cells hc j lv v hj hlv
    refine hlv.upd ?_
    have := f2 k1 e1 hk1
    subst hc
    simp only [Ent.mentions, List.any_eq_false] at this
    simpa using this lv (List.mem_of_getElem? hj)
  refine ⟨I.dfr, I.size, I.frm, fun t lv h => ((I.tmp t lv h).kp kp).upd (f1 t lv h), ?_, ?_, ?_, I.out, ?_⟩
  · intro k1 e1 hk1
    rcases hl k1 e1 hk1 with ⟨rfl, rfl⟩ | ⟨h1, h2, h3⟩
    · have hE := (I.ent k e1 hk).step kp (ρ' := upd ρ k1 (ρ k)) (fun _ _ => rfl) (by by_cases hkk : k = k1 <;> simp [upd, hkk]) (kc k e1 hk)
      cases e1 with
      | box cells => obtain ⟨b, T, cur, h1, h2⟩ := hE; exact ⟨b, T, cur, by rw [upd_at]; by_cases hkk : k = k1 <;> simp_all [upd], h2⟩
      | row n T l => obtain ⟨hz, xs, vals, h1, h2⟩ := hE; exact ⟨hz, xs, vals, by rw [upd_at]; by_cases hkk : k = k1 <;> simp_all [upd], h2⟩
      | map kk es => obtain ⟨r, en, cl, h1, h2⟩ := hE; exact ⟨r, en, cl, by rw [upd_at]; by_cases hkk : k = k1 <;> simp_all [upd], h2⟩
    · exact (I.ent k1 e1 h3).step kp (fun _ _ => rfl) (upd_ne _ _ h1) (kc k1 e1 h3)
  · intro k1 e1 b hk1 hb
    rcases hl k1 e1 hk1 with ⟨rfl, rfl⟩ | ⟨h1, h2, h3⟩
    · rw [upd_at] at hb; exact I.new k e1 b hk hb
    · rw [upd_ne _ _ h1] at hb; exact I.new k1 e1 b h3 hb
  · intro k1 k2 e1 e2 b h1 h2 hb1 hb2
    rcases hl k1 e1 h1 with ⟨rfl, rfl⟩ | ⟨g1, g2, g3⟩ <;> rcases hl k2 e2 h2 with ⟨rfl, rfl⟩ | ⟨q1, q2, q3⟩
    · rfl
    · rw [upd_at] at hb1; rw [upd_ne _ _ q1] at hb2
      exact absurd (I.sep k2 k _ _ b q3 hk hb2 hb1) q2
    · rw [upd_at] at hb2; rw [upd_ne _ _ g1] at hb1
      exact absurd (I.sep k1 k _ _ b g3 hk hb1 hb2) g2
    · rw [upd_ne _ _ g1] at hb1; rw [upd_ne _ _ q1] at hb2
      exact I.sep k1 k2 e1 e2 b g3 q3 hb1 hb2
  · intro k1 v hv
    by_cases h1 : k1 = d
    · subst h1; rw [hi] at hv; cases hv
    · rw [upd_ne _ _ h1]; exact I.inn k1 v hv

theorem free_rekey {σ : St} {k d : Nat} {e : Ent} (hf : σ.free d = true) : (∀ t lv, σ.t.lookup t = some lv → lv.mentions d = false) ∧ ∀ k1 e1, k1 ≠ d → (ins d e (dropH k σ.h)).lookup k1 = some e1 → e1.mentions d = false := by
  obtain ⟨f1, f2, f3⟩ := free_spec hf
  refine ⟨f1, fun k1 e1 h1 h => ?_⟩
  rw [lookup_ins, if_neg h1] at h
  exact f2 k1 e1 (dropH_lookup h).1

/-- An append to a row of ours; the row has another name then. -/
theorem ok_append (I : Iv Γ σ ρ a w) {o : Oper} {x y : Operand} {t e n by_ k d : Nat} {z : Value} {T : Nat} {l r : List SV} {K : St → Prop} (ho : o.op = .call { callee := .builtin .append, args := #[x, y], argTypes := #[t, t] })
    (hd : o.dst = some d) (hdn : d < Γ.n) (he : elOf Γ.P t = some (e, n)) (hz : zeroOf Γ.P e = some z) (hzn : z.cells.size = n) (hb : bytOf Γ.P e = some by_)
    (hx : σ.ev x = .own k) (hk : σ.h.lookup k = some (.row n T l)) (hT : T = e) (hf : σ.free d = true) (hi : Γ.inn d = none)
    (hy : σ.ev y = .sv (.sl n r)) (hr : r ≠ []) (h1 : ∀ s ∈ r, ((∃ c, s = .agg c) ∨ s.one = true)) (h63 : l.length + r.length ≤ maxLen) (hbytes : (l.length + r.length) * by_ ≤ 140737488355328)
    (hK : K ⟨(d, .own d) :: σ.t, ins d (.row n T (l ++ r)) (ins d (.row n T l) (dropH k σ.h))⟩) : XOk Γ a w o False K := by
  have hX : a.eval x = ρ k := by have := I.ev x; rw [hx] at this; exact this
  obtain ⟨f1, f2⟩ := free_rekey (k := k) (e := .row n T l) hf
  exact ok_append_at (σ := ⟨σ.t, ins d (.row n T l) (dropH k σ.h)⟩) (I.rekey hf hk hi) (k := d) ho hd hdn he hz hzn hb (by rw [upd_at]; exact hX) f1 (by rw [lookup_ins, if_pos rfl]) hT hi f2 hy hr h1 h63 hbytes hK

/-- A row is begun: nothing, so far. -/
theorem Iv.begin (I : Iv Γ σ ρ a w) {k n T : Nat} (hn : 0 < n) (hf : σ.free k = true) (hi : Γ.inn k = none) : Iv Γ ⟨σ.t, ins k (.row n T []) σ.h⟩ (upd ρ k (.slice none 0 0)) a w := by
  obtain ⟨f1, f2, f3⟩ := free_spec hf
  refine I.heap (fun t lv h => .inl h) (.inr ⟨f1, fun k1 e1 _ => f2 k1 e1⟩) ⟨rfl, rfl, rfl, Nat.le_refl _⟩ (fun _ _ _ => rfl) (fun b hb => by simp [blk] at hb) (by rw [hi]; intro v h; cases h) ?_
  exact ⟨hn, [], fun _ => undef, by rw [upd_at]; exact World.ownsRow_nil w 0 T n, fun i s h => by simp at h⟩

/-- An append to nothing. -/
theorem ok_append_nil (I : Iv Γ σ ρ a w) {o : Oper} {x y : Operand} {t e n by_ d : Nat} {z : Value} {r : List SV} {K : St → Prop} (ho : o.op = .call { callee := .builtin .append, args := #[x, y], argTypes := #[t, t] })
    (hd : o.dst = some d) (hdn : d < Γ.n) (he : elOf Γ.P t = some (e, n)) (hn : 0 < n) (hz : zeroOf Γ.P e = some z) (hzn : z.cells.size = n) (hb : bytOf Γ.P e = some by_)
    (hx : σ.ev x = .sv (.raw (.slice none 0 0))) (hf : σ.free d = true) (hi : Γ.inn d = none)
    (hy : σ.ev y = .sv (.sl n r)) (hr : r ≠ []) (h1 : ∀ s ∈ r, ((∃ c, s = .agg c) ∨ s.one = true)) (h63 : r.length ≤ maxLen) (hbytes : r.length * by_ ≤ 140737488355328)
    (hK : K ⟨(d, .own d) :: σ.t, ins d (.row n e r) (ins d (.row n e []) σ.h)⟩) : XOk Γ a w o False K := by
  obtain ⟨f1, f2, f3⟩ := free_spec hf
  refine ok_append_at (σ := ⟨σ.t, ins d (.row n e []) σ.h⟩) (I.begin (T := e) hn hf hi) (k := d) (l := []) ho hd hdn he hz hzn hb (by rw [upd_at]; exact ev_raw I hx) f1 (by rw [lookup_ins, if_pos rfl]) rfl hi (fun k1 e1 h1 h => ?_) hy hr h1 (by simpa using h63) (by simpa using hbytes) hK
  rw [lookup_ins, if_neg h1] at h
  exact f2 k1 e1 h

/-- A row made: n times the zero. -/
theorem ok_make (I : Iv Γ σ ρ a w) {o : Oper} {x y : Operand} {t e n by_ d m : Nat} {kl kc : IntKind} {z : Value} {s : SV} {K : St → Prop} (ho : o.op = .makeSlice t x y)
    (hd : o.dst = some d) (hdn : d < Γ.n) (he : elOf Γ.P t = some (e, n)) (hn : 0 < n) (hz : zeroOf Γ.P e = some z) (hzn : z.cells.size = n) (hb : bytOf Γ.P e = some by_)
    (hx : σ.ev x = .sv (.raw (.int kl m))) (hy : σ.ev y = .sv (.raw (.int kc m))) (hf : σ.free d = true) (hi : Γ.inn d = none)
    (hs : (z = .agg z.cells ∧ s = .agg (z.cells.toList.map .raw) ∧ z.cells.all (·.oneCell') = true) ∨ (z.oneCell' = true ∧ s = .raw z)) (h63 : m ≤ maxLen) (hbytes : by_ * m ≤ 281474976710656)
    (hK : K ⟨(d, .own d) :: σ.t, ins d (.row n e (List.replicate m s)) σ.h⟩) : XOk Γ a w o True K := by
  obtain ⟨hu, hsz⟩ := elOf_spec he
  unfold zeroOf at hz
  unfold szOf at hsz
  unfold bytOf at hb
  cases hinfo : Γ.P.info? e with
  | none => simp [hinfo] at hz
  | some i =>
    simp only [hinfo, Option.bind_some, Option.map_some, Option.some.injEq] at hz hsz hb
    obtain ⟨w', h2, h3, h4⟩ := run_make_full (P := Γ.P) w w.heap.size t e i z n hu hinfo hz hsz kl kc m (by rw [hb]; exact hbytes) h63 (Nat.le_refl _)
    have run : (execOp a.eval o).run Γ.P w = .ok (.value (.slice (some ⟨w.heap.size, 0, none⟩) m m)) w' := by
      simp [execOp, ho, ev_raw I hx, ev_raw I hy, h2]
    have hext : Ext w w' := ⟨h4.os, h4.tape, h4.output, h4.size, fun k hk => h4.block k hk (by simp)⟩
    unfold XOk oN
    rw [run]
    obtain ⟨f1, f2, f3⟩ := free_spec hf
    have hrep : ∀ O, Rep w' O s z := by
      intro O
      rcases hs with ⟨h5, h6, h7⟩ | ⟨_, h6⟩
      · obtain ⟨cs, hcs⟩ : ∃ cs, cs = z.cells := ⟨_, rfl⟩
        rw [← hcs] at h5 h6 h7
        rw [h6, h5]
        refine Rep.agg _ _ (by simp) (fun j u hu' => (Array.all_eq_true_iff_forall_mem.1 h7) u (Array.mem_of_getElem? hu')) (fun j q u hq hu' => ?_)
        have hu2 : cs.toList[j]? = some u := by simpa using hu'
        rw [List.getElem?_map, hu2] at hq
        simp at hq; subst hq; exact Rep.raw u
      · rw [h6]; exact Rep.raw z
    have I' := I.heap (t' := σ.t) (k := d) (e := .row n e (List.replicate m s)) (v' := .slice (some ⟨w.heap.size, 0, none⟩) m m) (w' := w') (fun t lv h => .inl h) (.inr ⟨f1, fun k1 e1 _ => f2 k1 e1⟩)
      ⟨h4.os, h4.tape, h4.output, h4.size⟩ (fun b hb _ => h4.block b hb (by simp)) (fun b hb => by
        have h5 := ownsRow_blk h3 hb
        exact ⟨h5.2, .inl h5.1⟩) (by rw [hi]; intro v h; cases h) (by
        refine ⟨hn, _, fun _ => z, by rw [upd_at, List.length_replicate]; exact ownsRow_base h3 (Nat.zero_le _), fun j q hq => ?_⟩
        have hjm : j < m := by have := (List.getElem?_eq_some_iff.1 hq).1; simpa using this
        rw [List.getElem?_replicate, if_pos hjm] at hq
        cases hq
        refine ⟨hrep _, hzn, fun jj u hu' => ?_⟩
        have hjz : jj < z.cells.size := (Array.getElem?_eq_some_iff.1 hu').1
        have hjj : jj < n := by omega
        have hlt : j * n + jj < m * n := by
          have : (j + 1) * n ≤ m * n := Nat.mul_le_mul_right _ hjm
          rw [Nat.add_mul] at this; omega
        have hmod : (j * n + jj) % z.cells.size = jj := by rw [hzn, Nat.mul_comm, Nat.mul_add_mod]; exact Nat.mod_eq_of_lt hjj
        have hzj : z.cells[jj]! = u := by
          have hlt2 : jj < z.cells.size := by omega
          rw [getElem!_pos z.cells jj hlt2]
          exact (Array.getElem?_eq_some_iff.1 hu').2
        simp [madeCells, hlt, hmod, hzj])
    have := I'.put (d := some d) (lv := .own d) (v := .slice (some ⟨w.heap.size, 0, none⟩) m m) (by simpa using hdn) (by show _ = _; rw [upd_at])
    refine ⟨_, hK, ⟨_, by rw [hd]; exact this⟩, fun _ => hext⟩

/-- A row of ours, read as a value: it is ours no more. -/
theorem row_view (I : Iv Γ σ ρ a w) {k n T : Nat} {l : List SV} (hk : σ.h.lookup k = some (.row n T l)) : Rep w (Own Γ (dropH k σ.h) ρ) (.sl n l) (ρ k) := by
  obtain ⟨hz, xs, vals, hown, hrep⟩ := I.ent k _ hk
  rcases hown.2 with ⟨h0, hn⟩ | ⟨g, cap, cur, h0, hbg, hcur, hnc, hcm, hcs, htake⟩
  · have : l = [] := List.eq_nil_of_length_eq_zero hn
    rw [h0, this]; exact Rep.nil _ _ _
  · by_cases hl : l.length = 0
    · have : l = [] := List.eq_nil_of_length_eq_zero hl
      rw [h0, this]; exact Rep.nil _ _ _
    · have hbk : blk (ρ k) = some g := by rw [h0]; rfl
      rw [h0]
      refine Rep.sl n l g 0 cap vals ?_ (by omega) hnc hz ?_ ?_ ?_
      · rintro (hO | ⟨k1, e1, hk1, hb1⟩)
        · have h1 := I.out g hO
          rcases (I.new k _ g hk hbk).1 with h | h
          · omega
          · exact h1.2 h
        · obtain ⟨h1, h2⟩ := dropH_lookup hk1
          exact h2 (I.sep k1 k e1 _ g h1 hk hb1 hbk)
      · exact fun i s hi => (hrep i s hi).1.kp (Own.sub fun k e h => (dropH_lookup h).1)
      · exact fun i hi => (hrep i _ (List.getElem?_eq_getElem hi)).2.1
      · intro i hi j u hu
        have h4 := (hrep i _ (List.getElem?_eq_getElem hi)).2.2 j u hu
        rw [h0] at hown
        have h5 := hown.cells (g := g) rfl (i * n + j) u h4
        rw [addr_add] at h5
        rw [Nat.zero_add] at h5 ⊢; exact h5

def fzT (k n : Nat) (l : List SV) (t : List (Nat × LV)) : List (Nat × LV) := t.map fun p => (p.1, match p.2 with | .own k' => if k' = k then .sv (.sl n l) else .own k' | .eptr k' _ _ _ => if k' = k then .dead else p.2 | lv => lv)
theorem fzT_lookup {k n t : Nat} {l : List SV} {lv : LV} : ∀ {ts : List (Nat × LV)}, (fzT k n l ts).lookup t = some lv → ts.lookup t = some lv ∨ (ts.lookup t = some (.own k) ∧ lv = .sv (.sl n l)) ∨ lv = .dead
  | [], h => by simp [fzT] at h
  | (t', lv') :: ts, h => by
    simp only [fzT, List.map_cons, List.lookup_cons] at h ⊢
    by_cases ht : t = t'
    · subst ht
      simp only [BEq.rfl, Option.some.injEq] at h ⊢
      subst h
      split
      · rename_i k'
        by_cases hk : k' = k
        · subst hk; simp
        · simp [hk]
      · split
        · exact .inr (.inr rfl)
        · exact .inl rfl
      · exact .inl rfl
    · have : (t == t') = false := by simpa using ht
      simp only [this] at h ⊢
      exact fzT_lookup h

/-- Freeze: a row of ours becomes a value that no one writes. -/
theorem Iv.freeze (I : Iv Γ σ ρ a w) {k n T : Nat} {l : List SV} (hk : σ.h.lookup k = some (.row n T l)) : Iv Γ ⟨fzT k n l σ.t, dropH k σ.h⟩ ρ a w := by
  have hv := row_view I hk
  have J : Iv Γ ⟨σ.t, dropH k σ.h⟩ ρ a w := I.sub (fun _ _ h => h) fun k e h => (dropH_lookup h).1
  refine ⟨J.dfr, J.size, J.frm, ?_, J.ent, J.new, J.sep, J.out, J.inn⟩
  intro t lv h
  rcases fzT_lookup h with h' | ⟨h', rfl⟩ | rfl
  · exact J.tmp t lv h'
  · have h1 : a.tmps.getD t undef = ρ k := I.tmp t _ h'
    rw [h1]; exact hv
  · exact trivial
end
end Go.Abs
