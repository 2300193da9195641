/- MergeAgg doesn't hang on how three drawn windows are put together: whatever is drawn, sums wrap alike in whatever order they are taken. No condition. -/
import Derived.Test.YtppifefhpjhmaaaPFnAggsx5
import Derived.Test.YtppifefhpjhmaaaKit
import Derived.Laws.BitsLemmas
namespace Go.Proofs.Ytppifefhpjhmaaa.Pure
open Go.RowKit Go.Proofs.Ytppifefhpjhmaaa.PFnAggs Go.Proofs.YtppifefhpjhmaaaW.PrintWords Go.Proofs.YtppifefhpjhmaaaW.PrintLast Go.Proofs.YtppifefhpjhmaaaW.PrintMore Go.Proofs.Ytppifefhpjhmaaa.Kit
set_option linter.unusedVariables false
set_option linter.unusedSimpArgs false

/-! ### the drawing cursor: it always answers, and it moves a little -/
/-- What is drawn from: bytes. -/
def Byt (l : List Int) : Prop := ∀ x ∈ l, 0 ≤ x ∧ x ≤ 255
theorem byt_of {l : List Int} (h : ∀ x ∈ l, (Lit.int .u8 x).wf = true) : Byt l := by
  intro x hx
  have h1 : IntKind.u8.min = 0 := rfl
  have h2 : IntKind.u8.max = 255 := rfl
  have h3 := h x hx
  simp only [Lit.wf, Bool.and_eq_true, decide_eq_true_eq, h1, h2] at h3
  exact h3
theorem byt_rd {l : List Int} (h : Byt l) (i : Int) : 0 ≤ rd l i ∧ rd l i ≤ 255 := by
  unfold rd
  rw [List.getD_eq_getElem?_getD]
  by_cases hi : i.toNat < l.length
  · rw [List.getElem?_eq_getElem hi]
    exact h _ (List.getElem_mem hi)
  · rw [List.getElem?_eq_none (by omega)]
    simp
/-- A drawing function's run at (s1, s2): it answers something that p holds of, and the cursor has moved by at most n. -/
def Dr {α : Type} (p : α → Prop) (n : Int) (s1 : Int) (g : Nat → Option (α × Int × Int)) : Prop := ∃ a t1 t2, p a ∧ 0 ≤ t1 ∧ t1 ≤ s1 + n ∧ Ev g (a, t1, t2)
def lim : Int := 4611686018427387904
theorem seed_and (x : Int) : 0 ≤ wrap64 (Go.bits .and .u64 (IntKind.u64.wrap x / 1099511627776) 255) ∧ wrap64 (Go.bits .and .u64 (IntKind.u64.wrap x / 1099511627776) 255) ≤ 255 := by
  have hx : IntKind.u64.wrap x = x % 18446744073709551616 := by simp [IntKind.wrap, IntKind.bits, IntKind.signed]
  have h := bits_mask .u64 24 (by decide) (fun n h0 h1 => wu64 h0 (by omega)) 8 (by decide) (IntKind.u64.wrap x / 1099511627776) (by rw [hx]; omega) (by rw [hx]; omega)
  have e : (2 ^ 8 - 1 : Int) = 255 := by decide
  rw [e] at h
  rw [h, show (2 ^ 8 : Int) = 256 by decide, w64 (by omega) (by omega)]
  omega
theorem next_dr {l : List Int} (hl : Byt l) (s1 s2 : Int) (h0 : 0 ≤ s1) (h1 : s1 ≤ lim) : Dr (fun b => 0 ≤ b ∧ b ≤ 255) 1 s1 fun k => spec_l1Cur_next.f k l s1 s2 := by
  have hlim : lim = 4611686018427387904 := rfl
  have key : ∀ b, 0 ≤ b ∧ b ≤ 255 → Dr (fun b => 0 ≤ b ∧ b ≤ 255) 1 s1 fun k => spec_l1Cur_next.j0 k b l s1 s2 := by
    intro b hb
    have e : wrap64 (s1 + 1) = s1 + 1 := w64 (by omega) (by omega)
    by_cases c : s1 + 1 ≤ (l.length : Int)
    · refine ⟨_, _, _, hb, ?_, ?_, ev_succ (ev_now fun k => by simp only [spec_l1Cur_next.j0, e]; rw [if_pos c])⟩ <;> omega
    · refine ⟨_, _, _, seed_and _, ?_, ?_, ev_succ (ev_now fun k => by simp only [spec_l1Cur_next.j0, e]; rw [if_neg c])⟩ <;> omega
  unfold spec_l1Cur_next.f
  by_cases c : s1 < (l.length : Int)
  · simp only [if_pos c, if_pos h0]
    have hb := byt_rd hl s1
    have e : wrap64 (rd l s1) = rd l s1 := w64 (by omega) (by omega)
    rw [e]
    exact key _ hb
  · simp only [if_neg c]
    exact key 0 (by omega)
/-- Draw, then go on. -/
theorem Dr.then {α β : Type} {p : α → Prop} {n s1 : Int} {g : Nat → Option (α × Int × Int)} (h : Dr p n s1 g) {Q : β → Prop} {f : Nat → α × Int × Int → Option β}
    (k : ∀ a t1 t2, p a → 0 ≤ t1 → t1 ≤ s1 + n → ∃ r, Q r ∧ Ev (fun k => f k (a, t1, t2)) r) : ∃ r, Q r ∧ Ev (fun k => (g k).bind (f k)) r := by
  obtain ⟨a, t1, t2, hp, h0, h1, he⟩ := h
  obtain ⟨r, hr, hk⟩ := k a t1 t2 hp h0 h1
  exact ⟨r, hr, Ev.bind he hk⟩
/-- Draw, then go on drawing. -/
theorem Dr.bind {α β : Type} {p : α → Prop} {n s1 : Int} {g : Nat → Option (α × Int × Int)} (h : Dr p n s1 g) {q : β → Prop} {m : Int} {f : Nat → α × Int × Int → Option (β × Int × Int)}
    (k : ∀ a t1 t2, p a → 0 ≤ t1 → t1 ≤ s1 + n → Dr q m t1 (fun k => f k (a, t1, t2))) : Dr q (n + m) s1 (fun k => (g k).bind (f k)) := by
  obtain ⟨a, t1, t2, hp, h0, h1, he⟩ := h
  obtain ⟨b, u1, u2, hq, h2, h3, hk⟩ := k a t1 t2 hp h0 h1
  exact ⟨b, u1, u2, hq, h2, by omega, Ev.bind he hk⟩
theorem Dr.mono {α : Type} {p q : α → Prop} {n m s1 : Int} {g : Nat → Option (α × Int × Int)} (h : Dr p n s1 g) (hp : ∀ a, p a → q a) (hn : n ≤ m) : Dr q m s1 g := by
  obtain ⟨a, t1, t2, h0, h1, h2, h3⟩ := h
  exact ⟨a, t1, t2, hp a h0, h1, by omega, h3⟩
theorem Dr.now {α : Type} {p : α → Prop} {n s1 t1 t2 : Int} {a : α} (hp : p a) (h0 : 0 ≤ t1) (h1 : t1 ≤ s1 + n) : Dr p n s1 (fun _ => some (a, t1, t2)) := ⟨a, t1, t2, hp, h0, h1, Ev.now _⟩
theorem Dr.succ {α : Type} {p : α → Prop} {n s1 : Int} {g : Nat → Option (α × Int × Int)} (h : Dr p n s1 fun k => g (k + 1)) : Dr p n s1 g := by
  obtain ⟨a, t1, t2, h0, h1, h2, h3⟩ := h
  exact ⟨a, t1, t2, h0, h1, h2, ev_succ h3⟩
theorem Dr.ite {α : Type} {p : α → Prop} {n s1 : Int} {c : Prop} [Decidable c] {g h : Nat → Option (α × Int × Int)} (hg : c → Dr p n s1 g) (hh : ¬ c → Dr p n s1 h) : Dr p n s1 (fun k => if c then g k else h k) := by
  by_cases hc : c
  · simp only [if_pos hc]; exact hg hc
  · simp only [if_neg hc]; exact hh hc
theorem pick_dr {l : List Int} (hl : Byt l) (s1 s2 n : Int) (h0 : 0 ≤ s1) (h1 : s1 + 1 ≤ lim) : Dr (fun a => 0 ≤ a ∧ (1 ≤ n → a < n) ∧ a ≤ 65535) 2 s1 fun k => spec_l1Cur_pick.f k l s1 s2 n := by
  unfold spec_l1Cur_pick.f
  refine Dr.ite (fun c => Dr.now ⟨by omega, by omega, by omega⟩ h0 (by first | omega | (dsimp only; omega))) fun c => ?_
  have hm : ∀ x : Int, 0 ≤ x → x ≤ 65535 → 0 ≤ Int.tmod x n ∧ (1 ≤ n → Int.tmod x n < n) ∧ Int.tmod x n ≤ 65535 := by
    intro x hx hx2
    rw [Int.tmod_eq_emod_of_nonneg hx]
    have a := Int.emod_nonneg x (show n ≠ 0 by omega)
    have b := Int.emod_lt_of_pos x (show 0 < n by omega)
    refine ⟨a, fun _ => b, ?_⟩
    by_cases hxn : x < n
    · rw [Int.emod_eq_of_lt hx hxn]; exact hx2
    · omega
  refine Dr.bind (n := 1) (m := 1) (next_dr hl s1 s2 h0 (by omega)) fun a t1 t2 ha h2 h3 => ?_
  refine Dr.ite (fun c2 => ?_) fun c2 => ?_
  · refine Dr.mono (n := 1 + 0) ?_ (fun _ h => h) (by omega)
    refine Dr.bind (next_dr hl t1 t2 h2 (by omega)) fun b u1 u2 hb h4 h5 => ?_
    refine Dr.ite (fun c3 => absurd c3 (by omega)) fun _ => ?_
    have e : wrap64 (wrap64 (a * 256) + b) = a * 256 + b := by rw [w64 (x := a * 256) (by omega) (by omega), w64 (by omega) (by omega)]
    simp only [e]
    exact Dr.now (hm _ (by omega) (by omega)) h4 (by first | omega | (dsimp only; omega))
  · refine Dr.ite (fun c3 => absurd c3 (by omega)) fun _ => ?_
    exact Dr.now (hm _ (by omega) (by omega)) h2 (by first | omega | (dsimp only; omega))
theorem one_dr {l : List Int} (hl : Byt l) (s1 s2 n : Int) (h0 : 0 ≤ s1) (h1 : s1 + 1 ≤ lim) : Dr (fun _ => True) 2 s1 fun k => spec_l1Cur_one.f k l s1 s2 n := by
  unfold spec_l1Cur_one.f
  exact Dr.mono (Dr.bind (n := 2) (m := 0) (pick_dr hl s1 s2 n h0 h1) fun a t1 t2 ha h2 h3 => Dr.now trivial h2 (by first | omega | (dsimp only; omega))) (fun _ h => h) (by omega)
--#wide
theorem wide_loop {l : List Int} (hl : Byt l) : ∀ (n : Nat) (x i s1 s2 : Int), i + n = 8 → 0 ≤ i → 0 ≤ s1 → s1 + n ≤ lim → Dr (fun _ => True) n s1 fun k => spec_l1Cur_wide.l0 k x i l s1 s2 := by
  intro n
  induction n with
  | zero =>
    intro x i s1 s2 hi hi0 h0 h1
    refine Dr.succ ?_
    simp only [spec_l1Cur_wide.l0]
    exact Dr.ite (fun c => absurd c (by omega)) fun _ => Dr.now trivial h0 (by first | omega | (dsimp only; omega))
  | succ n ih =>
    intro x i s1 s2 hi hi0 h0 h1
    refine Dr.succ ?_
    simp only [spec_l1Cur_wide.l0]
    refine Dr.ite (fun c => ?_) fun c => absurd c (by omega)
    refine Dr.mono (Dr.bind (n := 1) (m := n) (next_dr hl s1 s2 h0 (by omega)) fun a t1 t2 ha h2 h3 => ?_) (fun _ h => h) (by omega)
    have e : wrap64 (i + 1) = i + 1 := w64 (by omega) (by omega)
    simp only [e]
    exact ih _ _ _ _ (by omega) (by omega) h2 (by omega)
theorem wide_dr {l : List Int} (hl : Byt l) (s1 s2 : Int) (h0 : 0 ≤ s1) (h1 : s1 + 8 ≤ lim) : Dr (fun _ => True) 8 s1 fun k => spec_l1Cur_wide.f k l s1 s2 := wide_loop hl 8 0 0 s1 s2 (by omega) (by omega) h0 (by omega)
--#sized
theorem sized_dr {l : List Int} (hl : Byt l) (s1 s2 : Int) (h0 : 0 ≤ s1) (h1 : s1 + 16 ≤ lim) : Dr (fun _ => True) 16 s1 fun k => spec_l1Cur_sized.f k l s1 s2 := by
  have hj : ∀ x t1 t2, 0 ≤ t1 → t1 ≤ s1 + 14 → Dr (fun _ => True) 2 t1 fun k => spec_l1Cur_sized.j0 k x l t1 t2 := by
    intro x t1 t2 h2 h3
    refine Dr.succ ?_
    simp only [spec_l1Cur_sized.j0]
    refine Dr.mono (Dr.bind (n := 2) (m := 0) (one_dr hl t1 t2 3 h2 (by omega)) fun a u1 u2 ha h4 h5 => ?_) (fun _ h => h) (by omega)
    exact Dr.ite (fun _ => Dr.now trivial h4 (by first | omega | (dsimp only; omega))) fun _ => Dr.now trivial h4 (by first | omega | (dsimp only; omega))
  have hw : ∀ a : Int, 0 ≤ a ∧ (1 ≤ (64 : Int) → a < 64) ∧ a ≤ 65535 → 0 ≤ IntKind.u64.wrap a := by
    intro a ha
    rw [wu64 (by omega) (by omega)]
    exact ha.1
  unfold spec_l1Cur_sized.f
  refine Dr.mono (n := 2 + (2 + 12)) ?_ (fun _ h => h) (by omega)
  refine Dr.bind (pick_dr hl s1 s2 5 h0 (by omega)) fun n a1 a2 _ ha hb => ?_
  refine Dr.bind (pick_dr hl a1 a2 8 ha (by omega)) fun c b1 b2 _ hc hd => ?_
  refine Dr.ite (fun _ => ?_) fun _ => Dr.ite (fun _ => ?_) fun _ => Dr.ite (fun _ => ?_) fun _ => Dr.ite (fun _ => ?_) fun _ => ?_
  · exact Dr.mono (Dr.bind (pick_dr hl b1 b2 300 hc (by omega)) fun x u1 u2 _ he hf => hj _ _ _ he (by omega)) (fun _ h => h) (by omega)
  · refine Dr.mono (Dr.bind (wide_dr hl b1 b2 hc (by omega)) fun x u1 u2 _ he hf => Dr.bind (pick_dr hl u1 u2 64 he (by omega)) fun y v1 v2 hy hg hh => ?_) (fun _ h => h) (show 8 + (2 + 2) ≤ (12 : Int) by omega)
    exact Dr.ite (fun _ => hj _ _ _ hg (by omega)) fun c => absurd (hw y hy) c
  · refine Dr.mono (Dr.bind (pick_dr hl b1 b2 64 hc (by omega)) fun y v1 v2 hy hg hh => ?_) (fun _ h => h) (show 2 + 2 ≤ (12 : Int) by omega)
    exact Dr.ite (fun _ => hj _ _ _ hg (by omega)) fun c => absurd (hw y hy) c
  · refine Dr.mono (Dr.bind (pick_dr hl b1 b2 64 hc (by omega)) fun y v1 v2 hy hg hh => ?_) (fun _ h => h) (show 2 + 2 ≤ (12 : Int) by omega)
    exact Dr.ite (fun _ => hj _ _ _ hg (by omega)) fun c => absurd (hw y hy) c
  · exact Dr.mono (hj _ _ _ hc (by omega)) (fun _ h => h) (by omega)

theorem draw_ev {l : List Int} (hl : Byt l) : ∃ r, True ∧ Ev (fun k => spec_DrawMergeAgg.f k l) r := by
  unfold spec_DrawMergeAgg.f
  have hlim : lim = 4611686018427387904 := rfl
  refine Dr.then (pick_dr hl 0 0 20 (by omega) (by omega)) fun x0 a0 b0 _ g0 h0 => ?_
  refine Dr.then (pick_dr hl a0 b0 9 g0 (by omega)) fun x1 a1 b1 _ g1 h1 => ?_
  refine Dr.then (sized_dr hl a1 b1 g1 (by omega)) fun x2 a2 b2 _ g2 h2 => ?_
  refine Dr.then (sized_dr hl a2 b2 g2 (by omega)) fun x3 a3 b3 _ g3 h3 => ?_
  refine Dr.then (sized_dr hl a3 b3 g3 (by omega)) fun x4 a4 b4 _ g4 h4 => ?_
  refine Dr.then (sized_dr hl a4 b4 g4 (by omega)) fun x5 a5 b5 _ g5 h5 => ?_
  refine Dr.then (sized_dr hl a5 b5 g5 (by omega)) fun x6 a6 b6 _ g6 h6 => ?_
  refine Dr.then (sized_dr hl a6 b6 g6 (by omega)) fun x7 a7 b7 _ g7 h7 => ?_
  refine Dr.then (pick_dr hl a7 b7 40 g7 (by omega)) fun x8 a8 b8 _ g8 h8 => ?_
  refine Dr.then (pick_dr hl a8 b8 9 g8 (by omega)) fun x9 a9 b9 _ g9 h9 => ?_
  refine Dr.then (sized_dr hl a9 b9 g9 (by omega)) fun x10 a10 b10 _ g10 h10 => ?_
  refine Dr.then (sized_dr hl a10 b10 g10 (by omega)) fun x11 a11 b11 _ g11 h11 => ?_
  refine Dr.then (sized_dr hl a11 b11 g11 (by omega)) fun x12 a12 b12 _ g12 h12 => ?_
  refine Dr.then (sized_dr hl a12 b12 g12 (by omega)) fun x13 a13 b13 _ g13 h13 => ?_
  refine Dr.then (sized_dr hl a13 b13 g13 (by omega)) fun x14 a14 b14 _ g14 h14 => ?_
  refine Dr.then (sized_dr hl a14 b14 g14 (by omega)) fun x15 a15 b15 _ g15 h15 => ?_
  exact ⟨_, trivial, Ev.now _⟩

def rise (a b : Int) : Int := if b ≥ a then wrap64 (b - a) else b
theorem rise_f (a b : Int) : impl_riseOver.f a b = some (rise a b) ∧ spec_l11Rise.f a b = some (rise a b) := by
  unfold impl_riseOver.f spec_l11Rise.f rise
  by_cases h : b ≥ a
  · rw [if_pos h, if_pos h]; exact ⟨rfl, rfl⟩
  · rw [if_neg h, if_neg h]; exact ⟨rfl, rfl⟩
theorem turn (x y t : Int) : wrap64 (wrap64 (x + t) + y) = wrap64 (wrap64 (x + y) + t) := by
  unfold wrap64
  omega
theorem impl_f (a0 a1 a2 a3 a4 a5 a6 a7 b0 b1 b2 b3 b4 b5 b6 b7 : Int) : impl_MergeAgg.f a0 a1 a2 a3 a4 a5 a6 a7 b0 b1 b2 b3 b4 b5 b6 b7 = some (b0, wrap64 (a1 + b1), wrap64 (a2 + b2), mn a3 b3, mx a4 b4, a5, b6, wrap64 (wrap64 (a7 + b7) + rise a6 b5)) := by
  unfold impl_MergeAgg.f
  rw [(rise_f a6 b5).1]
  rfl
theorem spec_ev (a0 a1 a2 a3 a4 a5 a6 a7 b0 b1 b2 b3 b4 b5 b6 b7 : Int) : Ev (fun k => spec_MergeAgg.f k a0 a1 a2 a3 a4 a5 a6 a7 b0 b1 b2 b3 b4 b5 b6 b7) (b0, wrap64 (a1 + b1), wrap64 (a2 + b2), mn a3 b3, mx a4 b4, a5, b6, wrap64 (wrap64 (a7 + b7) + rise a6 b5)) := by
  refine ev_succ (ev_now fun k => ?_)
  unfold spec_MergeAgg.f
  simp only [spec_MergeAgg.j0, (rise_f a6 b5).2, Option.bind_some]
  rw [turn]
  unfold mn mx
  by_cases c1 : b3 < a3
  · by_cases c2 : b4 > a4
    · have c3 : a4 < b4 := c2
      simp only [if_pos c1, if_pos c2, if_pos c3]
    · have c3 : ¬ a4 < b4 := c2
      simp only [if_pos c1, if_neg c2, if_neg c3]
  · by_cases c2 : b4 > a4
    · have c3 : a4 < b4 := c2
      simp only [if_neg c1, if_pos c2, if_pos c3]
    · have c3 : ¬ a4 < b4 := c2
      simp only [if_neg c1, if_neg c2, if_neg c3]
theorem sum3 (a b c : Int) : wrap64 (wrap64 (a + b) + c) = wrap64 (a + wrap64 (b + c)) := by unfold wrap64; omega
theorem rise3 (a b c t u : Int) : wrap64 (wrap64 (wrap64 (wrap64 (a + b) + t) + c) + u) = wrap64 (wrap64 (a + wrap64 (wrap64 (b + c) + u)) + t) := by unfold wrap64; omega
theorem mn3 (a b c : Int) : mn (mn a b) c = mn a (mn b c) := by unfold mn; omega
theorem mx3 (a b c : Int) : mx (mx a b) c = mx a (mx b c) := by unfold mx; omega

theorem FnAggs : laws_FnAggs.Pure := by
  intro l0 l1 _ _ w0 _ _ w1
  refine Ev.rounds ?_
  have h0 := byt_of w0
  have h1 := byt_of w1
  have ht : Ev (fun k => laws_FnAggs.j0 k l0 l1 true) true := ev_succ (ev_now fun k => by simp [laws_FnAggs.j0])
  unfold laws_FnAggs.f
  by_cases c : (l0.length : Int) > 1048576
  · simp only [if_pos c]
    exact ht
  · simp only [if_neg c]
    by_cases d : (l1.length : Int) > 1048576
    · simp only [d, decide_true]
      exact ht
    · simp only [d, decide_false]
      refine ev_succ ?_
      simp only [laws_FnAggs.j0, Bool.false_eq_true, if_false]
      obtain ⟨⟨a0, a1, a2, a3, a4, a5, a6, a7, b0, b1, b2, b3, b4, b5, b6, b7⟩, _, ha⟩ := draw_ev h0
      obtain ⟨⟨c0, c1, c2, c3, c4, c5, c6, c7, d0, d1, d2, d3, d4, d5, d6, d7⟩, _, hc⟩ := draw_ev h1
      refine Ev.bind ha (Ev.bind hc ?_)
      simp only [impl_f, Option.bind_some]
      refine Ev.bind (spec_ev _ _ _ _ _ _ _ _ _ _ _ _ _ _ _ _) ?_
      simp only [beq_self_eq_true, Bool.and_self, if_true]
      simp only [rise3]
      simp only [sum3, mn3, mx3, beq_self_eq_true, Bool.and_self]
      exact Ev.now _

end Go.Proofs.Ytppifefhpjhmaaa.Pure
