/- A store, an append, a row made: what they do to plain values. No condition. -/
import Derived.Test.YtlokejcoikddgaaAbsX
import Derived.Laws.OwnMore
namespace Go.Abs
open Go Go.RowKit Go.Eager

theorem ownsRow_base {w : World} {B B' e size : Nat} {v : Value} {n : Nat} {xs : List Value} (h : w.ownsRow B e size v n xs) (hb : B' ≤ B) : w.ownsRow B' e size v n xs := by
  refine ⟨h.1, ?_⟩
  rcases h.2 with hn | ⟨g, cap, cur, hv, hg, rest⟩
  · exact .inl hn
  · exact .inr ⟨g, cap, cur, hv, Nat.le_trans hb hg, rest⟩

theorem ownsRow_blk {w : World} {B e size : Nat} {v : Value} {n : Nat} {xs : List Value} (h : w.ownsRow B e size v n xs) {b : Nat} (hb : blk v = some b) : B ≤ b ∧ b < w.heap.size := by
  rcases h.2 with ⟨rfl, _⟩ | ⟨g, cap, cur, rfl, hg, hc, _⟩
  · simp [blk] at hb
  · simp [blk] at hb
    subst hb
    exact ⟨hg, (Array.getElem?_eq_some_iff.1 hc).1⟩

/-- An append to a row of ours: the row stays where it was, or lies in a new block. -/
theorem run_append_mine {P : Program} (w : World) (t ty e : TypeId) (i : TypeInfo) (z : Value) (size bytes : Nat) (ht : P.underlying t = some (.slice e)) (hi : P.info? e = some i) (hz : i.zero = some z)
    (hsize : i.size = size) (hby : i.bytes = bytes) (hzs : z.cells.size = size) (hsz : 0 < size)
    (v : Value) (n : Nat) (xs : List Value) (hown : w.ownsRow 0 e size v n xs)
    (a : Addr) (m c : Nat) (news : List Value) (hl : news.length = m * size) (hnews : ∀ (j : Nat) (u : Value), news[j]? = some u → w.cell? (a.add j) = some u) (h1 : ∀ u ∈ news, u.oneCell' = true)
    (h63 : n + m ≤ maxLen) (hbytes : (n + m) * bytes ≤ 140737488355328) :
    ∃ v' w', (Builtin.append_ #[t, t] ty #[v, .slice (some a) m c]).run P w = .ok v' w' ∧ w'.ownsRow 0 e size v' (n + m) (xs ++ news) ∧ w.grownBy w' (blk v) ∧
      ∀ b, blk v' = some b → b < w'.heap.size ∧ (w.heap.size ≤ b ∨ blk v = some b) := by
  rcases hown.2 with ⟨rfl, rfl⟩ | ⟨g, cap, cur, rfl, hbg, hg, hnc, hcm, hcs, htake⟩
  · have hx : xs = [] := List.eq_nil_of_length_eq_zero (by simpa using hown.1)
    subst hx
    obtain ⟨v', w', h2, h3, h4, _⟩ := run_append_own (P := P) w w.heap.size t ty e i z size bytes ht hi hz hsize hby hzs hsz (.slice none 0 0) 0 [] (World.ownsRow_nil w _ e size) a m c news hl hnews h1 h63 hbytes (Nat.le_refl _)
    exact ⟨v', w', h2, ownsRow_base h3 (Nat.zero_le _), h4, fun b hb => ⟨(ownsRow_blk h3 hb).2, .inl (ownsRow_blk h3 hb).1⟩⟩
  · by_cases hroom : n + m ≤ cap
    · obtain ⟨w', h2, h3, h4⟩ := run_append_fits (P := P) w 0 t ty e i size ht hi hsize g n cap xs hown a m c news hl hnews h1 hroom
      refine ⟨_, w', h2, h3, h4, fun b hb => ⟨(ownsRow_blk h3 hb).2, .inr ?_⟩⟩
      simpa [blk] using hb
    · obtain ⟨v', w', h2, h3, h4, _⟩ := run_append_own (P := P) w 0 t ty e i z size bytes ht hi hz hsize hby hzs hsz _ n xs hown a m c news hl hnews h1 h63 hbytes (Nat.zero_le _)
      subst hsize hby
      have hr := run_append_grow (P := P) w t ty e i z ht hi hz ⟨g, 0, none⟩ n cap xs hown.1 (hown.cells (g := g) rfl) a m c news hl hnews (by omega) (by simp only [maxLen] at h63; omega) (growslice_fits (by omega) hbytes)
      rw [hr] at h2
      simp only [Result.ok.injEq] at h2
      obtain ⟨rfl, rfl⟩ := h2
      refine ⟨_, _, hr, h3, h4, fun b hb => ⟨(ownsRow_blk h3 hb).2, .inl ?_⟩⟩
      simp [blk] at hb
      omega

section
variable {Γ : Ctx} {σ : St} {ρ : Nat → Value} {a : Act} {w : World}

/-- What is appended, cell by cell. -/
theorem news_of {O : Nat → Prop} {n : Nat} {l : List SV} {v : Value} (h : Rep w O (.sl n l) v) (hl : l ≠ []) (h1 : ∀ s ∈ l, ((∃ c, s = .agg c) ∨ s.one = true)) :
    ∃ b off c, v = .slice (some ⟨b, off, none⟩) l.length c ∧ ∃ (news : List Value) (vals : Nat → Value), news.length = l.length * n ∧ (∀ (j : Nat) (u : Value), news[j]? = some u → w.cell? ((⟨b, off, none⟩ : Addr).add j) = some u) ∧
      (∀ u ∈ news, u.oneCell' = true) ∧ ∀ (i : Nat) (s : SV), l[i]? = some s → Rep w O s (vals i) ∧ (vals i).cells.size = n ∧ ∀ (j : Nat) (u : Value), (vals i).cells[j]? = some u → news[i * n + j]? = some u := by
  cases h with
  | nil => exact absurd rfl hl
  | sl _ _ b off c vals hb hpos hc hz q1 q2 q3 =>
    have get : ∀ m, m < l.length * n → m / n < l.length ∧ m % n < (vals (m / n)).cells.size := fun m hm => by
      have h1 : m / n < l.length := Nat.div_lt_of_lt_mul (by rw [Nat.mul_comm]; exact hm)
      exact ⟨h1, by rw [q2 _ h1]; exact Nat.mod_lt _ hz⟩
    let f : Nat → Value := fun m => (vals (m / n)).cells.getD (m % n) undef
    have hf : ∀ m, m < l.length * n → (vals (m / n)).cells[m % n]? = some (f m) := fun m hm => by
      have := (get m hm).2
      simp only [f, Array.getD_eq_getD_getElem?, Array.getElem?_eq_getElem this, Option.getD_some]
    refine ⟨b, off, c, rfl, (List.range (l.length * n)).map f, vals, by simp, ?_, ?_, ?_⟩
    · intro j u hj
      rw [List.getElem?_map] at hj
      have hlt : j < l.length * n := by
        by_cases h : j < l.length * n
        · exact h
        · simp [h] at hj
      rw [List.getElem?_range hlt] at hj
      simp only [Option.map_some, Option.some.injEq] at hj
      subst hj
      have := q3 (j / n) (get j hlt).1 (j % n) _ (hf j hlt)
      rw [addr_add]
      rw [show off + j = off + j / n * n + j % n by rw [Nat.add_assoc, Nat.mul_comm, Nat.div_add_mod]]
      exact this
    · intro u hu
      simp only [List.mem_map, List.mem_range] at hu
      obtain ⟨m, hm, rfl⟩ := hu
      obtain ⟨g1, g2⟩ := get m hm
      have hs := List.getElem?_eq_getElem g1
      have hr := q1 _ _ hs
      obtain ⟨k1, k2⟩ := sv_cells hr (h1 _ (List.getElem_mem g1))
      have hlt : m % n < (l[m / n]).cells.length := by omega
      exact (k2 (m % n) _ _ (List.getElem?_eq_getElem hlt) (hf m hm)).2
    · intro i s hi
      have hlt := (List.getElem?_eq_some_iff.1 hi).1
      refine ⟨q1 i s hi, q2 i hlt, fun j u hu => ?_⟩
      have hjn : j < n := by have := (Array.getElem?_eq_some_iff.1 hu).1; rw [q2 i hlt] at this; exact this
      have hm : i * n + j < l.length * n := by
        have : (i + 1) * n ≤ l.length * n := Nat.mul_le_mul_right _ hlt
        rw [Nat.add_mul] at this; omega
      rw [List.getElem?_map, List.getElem?_range hm]
      simp only [Option.map_some, Option.some.injEq]
      have e1 : (i * n + j) / n = i := by
        rw [Nat.mul_comm, Nat.mul_add_div (by omega), Nat.div_eq_of_lt hjn]; rfl
      have e2 : (i * n + j) % n = j := by
        rw [Nat.mul_comm, Nat.mul_add_mod]; exact Nat.mod_eq_of_lt hjn
      have h4 := hf _ hm
      rw [e1, e2, hu] at h4
      exact (Option.some.inj h4).symm

theorem ok_append_at (I : Iv Γ σ ρ a w) {o : Oper} {x y : Operand} {t e n by_ k d : Nat} {z : Value} {T : Nat} {l r : List SV} {K : St → Prop} (ho : o.op = .call { callee := .builtin .append, args := #[x, y], argTypes := #[t, t] })
    (hd : o.dst = some d) (hdn : d < Γ.n) (he : elOf Γ.P t = some (e, n)) (hz : zeroOf Γ.P e = some z) (hzn : z.cells.size = n) (hb : bytOf Γ.P e = some by_)
    (hX : a.eval x = ρ k) (hnm : ∀ t lv, σ.t.lookup t = some lv → lv.mentions k = false) (hk : σ.h.lookup k = some (.row n T l)) (hT : T = e) (hi : Γ.inn k = none) (hbox : ∀ k1 e1, k1 ≠ k → σ.h.lookup k1 = some e1 → e1.mentions k = false)
    (hy : σ.ev y = .sv (.sl n r)) (hr : r ≠ []) (h1 : ∀ s ∈ r, ((∃ c, s = .agg c) ∨ s.one = true)) (h63 : l.length + r.length ≤ maxLen) (hbytes : (l.length + r.length) * by_ ≤ 140737488355328)
    (hK : K ⟨(d, .own k) :: σ.t, ins k (.row n T (l ++ r)) σ.h⟩) : XOk Γ a w o False K := by
  subst hT
  obtain ⟨hu, hs⟩ := elOf_spec he
  have hY := I.ev y
  rw [hy] at hY
  obtain ⟨hz0, xs, vals0, hown, hrep⟩ := I.ent k _ hk
  obtain ⟨b, off, c, hyv, news, vals1, n1, n2, n3, n4⟩ := news_of hY hr h1
  unfold zeroOf at hz
  unfold szOf at hs
  unfold bytOf at hb
  cases hinfo : Γ.P.info? T with
  | none => simp [hinfo] at hz
  | some i =>
    simp only [hinfo, Option.bind_some, Option.map_some, Option.some.injEq] at hz hs hb
    obtain ⟨v', w', h2, h3, h4, h5⟩ := run_append_mine (P := Γ.P) w t o.type T i z n by_ hu hinfo hz hs hb hzn hz0 (ρ k) l.length xs hown ⟨b, off, none⟩ r.length c news n1 n2 n3 h63 hbytes
    have run : (execOp a.eval o).run Γ.P w = .ok (.value v') w' := by
      simp [execOp, ho, resolve, invoke, builtin, hX, hyv, h2]
    unfold XOk oN
    rw [run]
    refine ⟨_, hK, ⟨upd ρ k v', ?_⟩, fun h => h.elim⟩
    have kp : Kp w (Own Γ σ.h ρ) w' (Own Γ (ins k (.row n T (l ++ r)) σ.h) (upd ρ k v')) := by
      intro b hlt hno
      refine ⟨h4.block b hlt fun hbk => hno (.inr ⟨k, _, hk, hbk.symm⟩), ?_⟩
      rintro (hO | ⟨k1, e1, hk1, hb1⟩)
      · exact hno (.inl hO)
      · rw [lookup_ins] at hk1
        by_cases hkk : k1 = k
        · subst hkk
          rw [upd_at] at hb1
          rcases (h5 b hb1).2 with h | h
          · omega
          · exact hno (.inr ⟨k1, _, hk, h⟩)
        · rw [if_neg hkk] at hk1
          rw [upd_ne _ _ hkk] at hb1
          exact hno (.inr ⟨k1, e1, hk1, hb1⟩)
    have I' := I.heap (t' := σ.t) (k := k) (e := .row n T (l ++ r)) (v' := v') (w' := w') (fun t lv h => .inl h)
      (.inr ⟨hnm, hbox⟩) ⟨h4.os, h4.tape, h4.output, h4.size⟩ (fun b hlt hne => h4.block b hlt fun hbk => hne _ hk hbk.symm)
      (fun b hb => ⟨(h5 b hb).1, (h5 b hb).2.imp id fun h => ⟨_, hk, h⟩⟩) (by rw [hi]; intro v h; cases h) (by
        refine ⟨hz0, xs ++ news, fun i => if i < l.length then vals0 i else vals1 (i - l.length), ?_, ?_⟩
        · rw [upd_at, List.length_append]; exact h3
        · intro i s hs'
          have hxl : xs.length = l.length * n := hown.1
          by_cases hil : i < l.length
          · simp only [hil, if_true]
            rw [List.getElem?_append_left hil] at hs'
            obtain ⟨r1, r2, r3⟩ := hrep i s hs'
            refine ⟨r1.kp kp, r2, fun j u hu' => ?_⟩
            have hh := r3 j u hu'
            rw [List.getElem?_append_left (List.getElem?_eq_some_iff.1 hh).1]; exact hh
          · simp only [hil, if_false]
            rw [List.getElem?_append_right (by omega)] at hs'
            obtain ⟨r1, r2, r3⟩ := n4 _ s hs'
            refine ⟨r1.kp kp, r2, fun j u hu' => ?_⟩
            have hh := r3 j u hu'
            have hge : l.length * n ≤ i * n := Nat.mul_le_mul_right _ (by omega)
            rw [List.getElem?_append_right (by omega), hxl]
            rw [show i * n + j - l.length * n = (i - l.length) * n + j by rw [Nat.sub_mul]; omega]
            exact hh)
    have := I'.put (d := some d) (lv := .own k) (v := v') (by simpa using hdn) (upd_at ρ k v').symm
    rw [hd]
    exact this
end
end Go.Abs
