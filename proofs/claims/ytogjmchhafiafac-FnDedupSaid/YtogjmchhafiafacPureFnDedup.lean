/- Of two drawn replicas' samples: whatever is drawn, what DedupSamples tells is of theirs, rises, is the series itself of a series and itself, and leaves no gap unfilled. No condition. -/
import Derived.Test.YtogjmchhafiafacPFnDedupx9
import Derived.Test.YtogjmchhafiafacVFnDedup
import Derived.Laws.BitsLemmas
namespace Go.Proofs.Ytogjmchhafiafac.Pure
open Go.RowKit Go.Proofs.Ytogjmchhafiafac.PFnDedup Go.Proofs.YtogjmchhafiafacW.PrintWords Go.Proofs.YtogjmchhafiafacW.PrintLast Go.Proofs.YtogjmchhafiafacW.PrintMore Go.Proofs.Ytogjmchhafiafac.Kit
set_option linter.unusedVariables false
set_option linter.unusedSimpArgs false

/-! ### the drawing cursor: it always answers, and it moves a little -/
/-- What is drawn from: bytes. -/
def Byt (l : List Int) : Prop := ∀ x ∈ l, 0 ≤ x ∧ x ≤ 255
theorem byt_of {l : List Int} (h : ∀ x ∈ l, (Lit.int .u8 x).wf = true) : Byt l := by
  intro x hx
  have h1 : IntKind.u8.min = 0 := rfl
  have h2 : IntKind.u8.max = 255 := rfl
  have h3 := h x hx
  simp only [Lit.wf, Bool.and_eq_true, decide_eq_true_eq, h1, h2] at h3
  exact h3
theorem byt_rd {l : List Int} (h : Byt l) (i : Int) : 0 ≤ rd l i ∧ rd l i ≤ 255 := by
  unfold rd
  rw [List.getD_eq_getElem?_getD]
  by_cases hi : i.toNat < l.length
  · rw [List.getElem?_eq_getElem hi]
    exact h _ (List.getElem_mem hi)
  · rw [List.getElem?_eq_none (by omega)]
    simp
/-- A drawing function's run at (s1, s2): it answers something that p holds of, and the cursor has moved by at most n. -/
def Dr {α : Type} (p : α → Prop) (n : Int) (s1 : Int) (g : Nat → Option (α × Int × Int)) : Prop := ∃ a t1 t2, p a ∧ 0 ≤ t1 ∧ t1 ≤ s1 + n ∧ Ev g (a, t1, t2)
def lim : Int := 4611686018427387904
theorem seed_and (x : Int) : 0 ≤ wrap64 (Go.bits .and .u64 (IntKind.u64.wrap x / 1099511627776) 255) ∧ wrap64 (Go.bits .and .u64 (IntKind.u64.wrap x / 1099511627776) 255) ≤ 255 := by
  have hx : IntKind.u64.wrap x = x % 18446744073709551616 := by simp [IntKind.wrap, IntKind.bits, IntKind.signed]
  have h := bits_mask .u64 24 (by decide) (fun n h0 h1 => wu64 h0 (by omega)) 8 (by decide) (IntKind.u64.wrap x / 1099511627776) (by rw [hx]; omega) (by rw [hx]; omega)
  have e : (2 ^ 8 - 1 : Int) = 255 := by decide
  rw [e] at h
  rw [h, show (2 ^ 8 : Int) = 256 by decide, w64 (by omega) (by omega)]
  omega
theorem next_dr {l : List Int} (hl : Byt l) (s1 s2 : Int) (h0 : 0 ≤ s1) (h1 : s1 ≤ lim) : Dr (fun b => 0 ≤ b ∧ b ≤ 255) 1 s1 fun k => spec_l1Cur_next.f k l s1 s2 := by
  have hlim : lim = 4611686018427387904 := rfl
  have key : ∀ b, 0 ≤ b ∧ b ≤ 255 → Dr (fun b => 0 ≤ b ∧ b ≤ 255) 1 s1 fun k => spec_l1Cur_next.j0 k b l s1 s2 := by
    intro b hb
    have e : wrap64 (s1 + 1) = s1 + 1 := w64 (by omega) (by omega)
    by_cases c : s1 + 1 ≤ (l.length : Int)
    · refine ⟨_, _, _, hb, ?_, ?_, ev_succ (ev_now fun k => by simp only [spec_l1Cur_next.j0, e]; rw [if_pos c])⟩ <;> omega
    · refine ⟨_, _, _, seed_and _, ?_, ?_, ev_succ (ev_now fun k => by simp only [spec_l1Cur_next.j0, e]; rw [if_neg c])⟩ <;> omega
  unfold spec_l1Cur_next.f
  by_cases c : s1 < (l.length : Int)
  · simp only [if_pos c, if_pos h0]
    have hb := byt_rd hl s1
    have e : wrap64 (rd l s1) = rd l s1 := w64 (by omega) (by omega)
    rw [e]
    exact key _ hb
  · simp only [if_neg c]
    exact key 0 (by omega)
/-- Draw, then go on. -/
theorem Dr.then {α β : Type} {p : α → Prop} {n s1 : Int} {g : Nat → Option (α × Int × Int)} (h : Dr p n s1 g) {Q : β → Prop} {f : Nat → α × Int × Int → Option β}
    (k : ∀ a t1 t2, p a → 0 ≤ t1 → t1 ≤ s1 + n → ∃ r, Q r ∧ Ev (fun k => f k (a, t1, t2)) r) : ∃ r, Q r ∧ Ev (fun k => (g k).bind (f k)) r := by
  obtain ⟨a, t1, t2, hp, h0, h1, he⟩ := h
  obtain ⟨r, hr, hk⟩ := k a t1 t2 hp h0 h1
  exact ⟨r, hr, Ev.bind he hk⟩
/-- Draw, then go on drawing. -/
theorem Dr.bind {α β : Type} {p : α → Prop} {n s1 : Int} {g : Nat → Option (α × Int × Int)} (h : Dr p n s1 g) {q : β → Prop} {m : Int} {f : Nat → α × Int × Int → Option (β × Int × Int)}
    (k : ∀ a t1 t2, p a → 0 ≤ t1 → t1 ≤ s1 + n → Dr q m t1 (fun k => f k (a, t1, t2))) : Dr q (n + m) s1 (fun k => (g k).bind (f k)) := by
  obtain ⟨a, t1, t2, hp, h0, h1, he⟩ := h
  obtain ⟨b, u1, u2, hq, h2, h3, hk⟩ := k a t1 t2 hp h0 h1
  exact ⟨b, u1, u2, hq, h2, by omega, Ev.bind he hk⟩
theorem Dr.mono {α : Type} {p q : α → Prop} {n m s1 : Int} {g : Nat → Option (α × Int × Int)} (h : Dr p n s1 g) (hp : ∀ a, p a → q a) (hn : n ≤ m) : Dr q m s1 g := by
  obtain ⟨a, t1, t2, h0, h1, h2, h3⟩ := h
  exact ⟨a, t1, t2, hp a h0, h1, by omega, h3⟩
theorem Dr.now {α : Type} {p : α → Prop} {n s1 t1 t2 : Int} {a : α} (hp : p a) (h0 : 0 ≤ t1) (h1 : t1 ≤ s1 + n) : Dr p n s1 (fun _ => some (a, t1, t2)) := ⟨a, t1, t2, hp, h0, h1, Ev.now _⟩
theorem Dr.succ {α : Type} {p : α → Prop} {n s1 : Int} {g : Nat → Option (α × Int × Int)} (h : Dr p n s1 fun k => g (k + 1)) : Dr p n s1 g := by
  obtain ⟨a, t1, t2, h0, h1, h2, h3⟩ := h
  exact ⟨a, t1, t2, h0, h1, h2, ev_succ h3⟩
theorem Dr.ite {α : Type} {p : α → Prop} {n s1 : Int} {c : Prop} [Decidable c] {g h : Nat → Option (α × Int × Int)} (hg : c → Dr p n s1 g) (hh : ¬ c → Dr p n s1 h) : Dr p n s1 (fun k => if c then g k else h k) := by
  by_cases hc : c
  · simp only [if_pos hc]; exact hg hc
  · simp only [if_neg hc]; exact hh hc
theorem pick_dr {l : List Int} (hl : Byt l) (s1 s2 n : Int) (h0 : 0 ≤ s1) (h1 : s1 + 1 ≤ lim) : Dr (fun a => 0 ≤ a ∧ (1 ≤ n → a < n) ∧ a ≤ 65535) 2 s1 fun k => spec_l1Cur_pick.f k l s1 s2 n := by
  unfold spec_l1Cur_pick.f
  refine Dr.ite (fun c => Dr.now ⟨by omega, by omega, by omega⟩ h0 (by first | omega | (dsimp only; omega))) fun c => ?_
  have hm : ∀ x : Int, 0 ≤ x → x ≤ 65535 → 0 ≤ Int.tmod x n ∧ (1 ≤ n → Int.tmod x n < n) ∧ Int.tmod x n ≤ 65535 := by
    intro x hx hx2
    rw [Int.tmod_eq_emod_of_nonneg hx]
    have a := Int.emod_nonneg x (show n ≠ 0 by omega)
    have b := Int.emod_lt_of_pos x (show 0 < n by omega)
    refine ⟨a, fun _ => b, ?_⟩
    by_cases hxn : x < n
    · rw [Int.emod_eq_of_lt hx hxn]; exact hx2
    · omega
  refine Dr.bind (n := 1) (m := 1) (next_dr hl s1 s2 h0 (by omega)) fun a t1 t2 ha h2 h3 => ?_
  refine Dr.ite (fun c2 => ?_) fun c2 => ?_
  · refine Dr.mono (n := 1 + 0) ?_ (fun _ h => h) (by omega)
    refine Dr.bind (next_dr hl t1 t2 h2 (by omega)) fun b u1 u2 hb h4 h5 => ?_
    refine Dr.ite (fun c3 => absurd c3 (by omega)) fun _ => ?_
    have e : wrap64 (wrap64 (a * 256) + b) = a * 256 + b := by rw [w64 (x := a * 256) (by omega) (by omega), w64 (by omega) (by omega)]
    simp only [e]
    exact Dr.now (hm _ (by omega) (by omega)) h4 (by first | omega | (dsimp only; omega))
  · refine Dr.ite (fun c3 => absurd c3 (by omega)) fun _ => ?_
    exact Dr.now (hm _ (by omega) (by omega)) h2 (by first | omega | (dsimp only; omega))
theorem one_dr {l : List Int} (hl : Byt l) (s1 s2 n : Int) (h0 : 0 ≤ s1) (h1 : s1 + 1 ≤ lim) : Dr (fun _ => True) 2 s1 fun k => spec_l1Cur_one.f k l s1 s2 n := by
  unfold spec_l1Cur_one.f
  exact Dr.mono (Dr.bind (n := 2) (m := 0) (pick_dr hl s1 s2 n h0 h1) fun a t1 t2 ha h2 h3 => Dr.now trivial h2 (by first | omega | (dsimp only; omega))) (fun _ h => h) (by omega)
--#wide
theorem wide_loop {l : List Int} (hl : Byt l) : ∀ (n : Nat) (x i s1 s2 : Int), i + n = 8 → 0 ≤ i → 0 ≤ s1 → s1 + n ≤ lim → Dr (fun _ => True) n s1 fun k => spec_l1Cur_wide.l0 k x i l s1 s2 := by
  intro n
  induction n with
  | zero =>
    intro x i s1 s2 hi hi0 h0 h1
    refine Dr.succ ?_
    simp only [spec_l1Cur_wide.l0]
    exact Dr.ite (fun c => absurd c (by omega)) fun _ => Dr.now trivial h0 (by first | omega | (dsimp only; omega))
  | succ n ih =>
    intro x i s1 s2 hi hi0 h0 h1
    refine Dr.succ ?_
    simp only [spec_l1Cur_wide.l0]
    refine Dr.ite (fun c => ?_) fun c => absurd c (by omega)
    refine Dr.mono (Dr.bind (n := 1) (m := n) (next_dr hl s1 s2 h0 (by omega)) fun a t1 t2 ha h2 h3 => ?_) (fun _ h => h) (by omega)
    have e : wrap64 (i + 1) = i + 1 := w64 (by omega) (by omega)
    simp only [e]
    exact ih _ _ _ _ (by omega) (by omega) h2 (by omega)
theorem wide_dr {l : List Int} (hl : Byt l) (s1 s2 : Int) (h0 : 0 ≤ s1) (h1 : s1 + 8 ≤ lim) : Dr (fun _ => True) 8 s1 fun k => spec_l1Cur_wide.f k l s1 s2 := wide_loop hl 8 0 0 s1 s2 (by omega) (by omega) h0 (by omega)
--#sized
theorem sized_dr {l : List Int} (hl : Byt l) (s1 s2 : Int) (h0 : 0 ≤ s1) (h1 : s1 + 16 ≤ lim) : Dr (fun _ => True) 16 s1 fun k => spec_l1Cur_sized.f k l s1 s2 := by
  have hj : ∀ x t1 t2, 0 ≤ t1 → t1 ≤ s1 + 14 → Dr (fun _ => True) 2 t1 fun k => spec_l1Cur_sized.j0 k x l t1 t2 := by
    intro x t1 t2 h2 h3
    refine Dr.succ ?_
    simp only [spec_l1Cur_sized.j0]
    refine Dr.mono (Dr.bind (n := 2) (m := 0) (one_dr hl t1 t2 3 h2 (by omega)) fun a u1 u2 ha h4 h5 => ?_) (fun _ h => h) (by omega)
    exact Dr.ite (fun _ => Dr.now trivial h4 (by first | omega | (dsimp only; omega))) fun _ => Dr.now trivial h4 (by first | omega | (dsimp only; omega))
  have hw : ∀ a : Int, 0 ≤ a ∧ (1 ≤ (64 : Int) → a < 64) ∧ a ≤ 65535 → 0 ≤ IntKind.u64.wrap a := by
    intro a ha
    rw [wu64 (by omega) (by omega)]
    exact ha.1
  unfold spec_l1Cur_sized.f
  refine Dr.mono (n := 2 + (2 + 12)) ?_ (fun _ h => h) (by omega)
  refine Dr.bind (pick_dr hl s1 s2 5 h0 (by omega)) fun n a1 a2 _ ha hb => ?_
  refine Dr.bind (pick_dr hl a1 a2 8 ha (by omega)) fun c b1 b2 _ hc hd => ?_
  refine Dr.ite (fun _ => ?_) fun _ => Dr.ite (fun _ => ?_) fun _ => Dr.ite (fun _ => ?_) fun _ => Dr.ite (fun _ => ?_) fun _ => ?_
  · exact Dr.mono (Dr.bind (pick_dr hl b1 b2 300 hc (by omega)) fun x u1 u2 _ he hf => hj _ _ _ he (by omega)) (fun _ h => h) (by omega)
  · refine Dr.mono (Dr.bind (wide_dr hl b1 b2 hc (by omega)) fun x u1 u2 _ he hf => Dr.bind (pick_dr hl u1 u2 64 he (by omega)) fun y v1 v2 hy hg hh => ?_) (fun _ h => h) (show 8 + (2 + 2) ≤ (12 : Int) by omega)
    exact Dr.ite (fun _ => hj _ _ _ hg (by omega)) fun c => absurd (hw y hy) c
  · refine Dr.mono (Dr.bind (pick_dr hl b1 b2 64 hc (by omega)) fun y v1 v2 hy hg hh => ?_) (fun _ h => h) (show 2 + 2 ≤ (12 : Int) by omega)
    exact Dr.ite (fun _ => hj _ _ _ hg (by omega)) fun c => absurd (hw y hy) c
  · refine Dr.mono (Dr.bind (pick_dr hl b1 b2 64 hc (by omega)) fun y v1 v2 hy hg hh => ?_) (fun _ h => h) (show 2 + 2 ≤ (12 : Int) by omega)
    exact Dr.ite (fun _ => hj _ _ _ hg (by omega)) fun c => absurd (hw y hy) c
  · exact Dr.mono (hj _ _ _ hc (by omega)) (fun _ h => h) (by omega)

--#valueBy
theorem valueBy_dr {l : List Int} (hl : Byt l) (s1 s2 v : Int) (h0 : 0 ≤ s1) (h1 : s1 + 18 ≤ lim) : Dr (fun _ => True) 18 s1 fun k => spec_l1Cur_valueBy.f k l s1 s2 v := by
  have hj : ∀ b t1 t2, 0 ≤ t1 → t1 ≤ s1 + 2 → Dr (fun _ => True) 16 t1 fun k => spec_l1Cur_valueBy.j0 k v b l t1 t2 := by
    intro b t1 t2 h2 h3
    refine Dr.succ ?_
    simp only [spec_l1Cur_valueBy.j0]
    refine Dr.ite (fun _ => Dr.now trivial h2 (by first | omega | (dsimp only; omega))) fun _ => ?_
    exact Dr.mono (Dr.bind (n := 2) (m := 0) (pick_dr hl t1 t2 9 h2 (by omega)) fun a u1 u2 _ h4 h5 => Dr.now trivial h4 (by first | omega | (dsimp only; omega))) (fun _ h => h) (by omega)
  unfold spec_l1Cur_valueBy.f
  refine Dr.mono (n := 2 + 16) ?_ (fun _ h => h) (by omega)
  refine Dr.bind (pick_dr hl s1 s2 10 h0 (by omega)) fun c b1 b2 _ hc hd => ?_
  refine Dr.ite (fun _ => ?_) fun _ => Dr.ite (fun _ => ?_) fun _ => Dr.ite (fun _ => ?_) fun _ => ?_
  · exact Dr.mono (Dr.bind (m := 0) (sized_dr hl b1 b2 hc (by omega)) fun a u1 u2 _ h4 h5 => Dr.now trivial h4 (by first | omega | (dsimp only; omega))) (fun _ h => h) (by omega)
  · exact Dr.now trivial hc (by first | omega | (dsimp only; omega))
  · exact hj _ _ _ hc (by omega)
  · exact hj _ _ _ hc (by omega)
--#samples
theorem samples_loop {l : List Int} (hl : Byt l) : ∀ (n : Nat) (out : List S37) (t v st i s1 s2 : Int), i = n → out.length + n ≤ 1000000 → 0 ≤ s1 → s1 + 22 * n ≤ lim → Dr (fun r => r.length = out.length + n) (22 * n) s1 fun k => spec_l1Cur_samples.l0 k out t v st i l s1 s2 := by
  intro n
  induction n with
  | zero =>
    intro out t v st i s1 s2 hi hc h0 h1
    refine Dr.succ ?_
    simp only [spec_l1Cur_samples.l0]
    exact Dr.ite (fun c => absurd c (by omega)) fun _ => Dr.now rfl h0 (by first | omega | (dsimp only; omega))
  | succ n ih =>
    intro out t v st i s1 s2 hi hc h0 h1
    have e : wrap64 (i - 1) = n := by rw [w64 (by omega) (by omega)]; omega
    refine Dr.succ ?_
    simp only [spec_l1Cur_samples.l0]
    refine Dr.ite (fun c => ?_) fun c => absurd c (by omega)
    refine Dr.mono (n := 18 + (4 + 22 * n)) ?_ (fun _ h => h) (by omega)
    refine Dr.bind (valueBy_dr hl s1 s2 v h0 (by omega)) fun x a1 a2 _ g0 g1 => ?_
    refine Dr.ite (fun _ => ?_) fun c => absurd (show out.length < 8796093022208 by omega) c
    simp only [Option.bind_some]
    have go : ∀ st' u1 u2, 0 ≤ u1 → u1 ≤ a1 + 4 → Dr (fun r => r.length = out.length + (n + 1)) (22 * n) u1 fun k => spec_l1Cur_samples.l0 k (out ++ [(⟨t, x⟩ : S37)]) (wrap64 (t + st')) x st' (wrap64 (i - 1)) l u1 u2 := by
      intro st' u1 u2 k0 k1
      exact Dr.mono (ih (out ++ [(⟨t, x⟩ : S37)]) (wrap64 (t + st')) x st' (wrap64 (i - 1)) u1 u2 e (by simp; omega) k0 (by omega)) (fun r h => by rw [h]; simp; omega) (by omega)
    have go2 : ∀ m u1 u2, 0 ≤ u1 → u1 ≤ a1 + 2 → Dr (fun r => r.length = out.length + (n + 1)) (2 + 22 * n) u1 fun k => (spec_l1Cur_pick.f k l u1 u2 m).bind fun bt => spec_l1Cur_samples.l0 k (out ++ [(⟨t, x⟩ : S37)]) (wrap64 (t + wrap64 (1 + bt.1))) x (wrap64 (1 + bt.1)) (wrap64 (i - 1)) l bt.2.1 bt.2.2 := by
      intro m u1 u2 k0 k1
      exact Dr.bind (pick_dr hl u1 u2 m k0 (by omega)) fun y v1 v2 _ k2 k3 => go _ _ _ k2 (by omega)
    refine Dr.mono (n := 2 + (2 + 22 * n)) ?_ (fun _ h => h) (by omega)
    refine Dr.bind (pick_dr hl a1 a2 12 g0 (by omega)) fun c b1 b2 _ g2 g3 => ?_
    refine Dr.ite (fun _ => ?_) fun _ => Dr.ite (fun _ => ?_) fun _ => Dr.ite (fun _ => ?_) fun _ => ?_
    · exact go2 _ _ _ g2 (by omega)
    · exact go2 _ _ _ g2 (by omega)
    · exact go2 _ _ _ g2 (by omega)
    · exact Dr.mono (go _ _ _ g2 (by omega)) (fun _ h => h) (by omega)
theorem samples_dr {l : List Int} (hl : Byt l) (s1 s2 from_ most : Int) (m0 : 1 ≤ most) (m1 : most ≤ 4096) (h0 : 0 ≤ s1) (h1 : s1 + (6 + 22 * most) ≤ lim) : Dr (fun r => (r.length : Int) < most) (6 + 22 * most) s1 fun k => spec_l1Cur_samples.f k l s1 s2 from_ most := by
  unfold spec_l1Cur_samples.f
  refine Dr.mono (n := 2 + (2 + (2 + 22 * most))) ?_ (fun _ h => h) (by omega)
  refine Dr.bind (pick_dr hl s1 s2 100 h0 (by omega)) fun x a1 a2 _ g0 g1 => ?_
  refine Dr.bind (pick_dr hl a1 a2 15 g0 (by omega)) fun y b1 b2 _ g2 g3 => ?_
  refine Dr.bind (pick_dr hl b1 b2 most g2 (by omega)) fun z c1 c2 hz g4 g5 => ?_
  obtain ⟨n, hn⟩ := Int.eq_ofNat_of_zero_le hz.1
  have hz2 := hz.2.1 m0
  exact Dr.mono (samples_loop hl n [] from_ x (wrap64 (1 + y)) z c1 c2 hn (by simp; omega) g4 (by omega)) (fun r h => by rw [h]; simp; omega) (by omega)
--#of2
theorem of2_dr {l : List Int} (hl : Byt l) (s1 s2 a b : Int) (h0 : 0 ≤ s1) (h1 : s1 + 1 ≤ lim) : Dr (fun _ => True) 2 s1 fun k => spec_l1Cur_of2.f k l s1 s2 a b := by
  unfold spec_l1Cur_of2.f
  refine Dr.mono (Dr.bind (n := 2) (m := 0) (one_dr hl s1 s2 2 h0 h1) fun c t1 t2 _ h2 h3 => ?_) (fun _ h => h) (by omega)
  exact Dr.ite (fun _ => Dr.now trivial h2 (by first | omega | (dsimp only; omega))) fun _ => Dr.now trivial h2 (by first | omega | (dsimp only; omega))
--#oddSamples
theorem oddSamples_dr {l : List Int} (hl : Byt l) (s1 s2 : Int) (x : List S37) (hx : x.length ≤ 1000000) (h0 : 0 ≤ s1) (h1 : s1 + 4 ≤ lim) : Dr (fun r => r.length ≤ x.length + 1) 4 s1 fun k => spec_l1Cur_oddSamples.f k l s1 s2 x := by
  unfold spec_l1Cur_oddSamples.f
  refine Dr.mono (n := 2 + 2) ?_ (fun _ h => h) (by omega)
  refine Dr.bind (pick_dr hl s1 s2 20 h0 (by omega)) fun c a1 a2 _ g0 g1 => ?_
  refine Dr.ite (fun _ => ?_) fun _ => Dr.ite (fun _ => ?_) fun _ => Dr.ite (fun _ => ?_) fun _ => ?_
  · refine Dr.ite (fun c => ?_) fun _ => Dr.now (by omega) g0 (by first | omega | (dsimp only; omega))
    refine Dr.ite (fun c2 => ?_) fun c2 => absurd c2 (by omega)
    exact Dr.ite (fun c3 => Dr.now (by simp) g0 (by first | omega | (dsimp only; omega))) fun c3 => absurd c3 (by omega)
  · refine Dr.mono (Dr.bind (n := 2) (m := 0) (of2_dr hl a1 a2 _ _ g0 (by omega)) fun y b1 b2 _ g2 g3 => ?_) (fun _ h => h) (by omega)
    exact Dr.ite (fun _ => Dr.now (by simp) g2 (by first | omega | (dsimp only; omega))) fun c => absurd (show x.length < 8796093022208 by omega) c
  · refine Dr.ite (fun c => ?_) fun _ => Dr.now (by omega) g0 (by first | omega | (dsimp only; omega))
    exact Dr.ite (fun c3 => Dr.now (by simp) g0 (by first | omega | (dsimp only; omega))) fun c3 => absurd c3 (by omega)
  · exact Dr.now (by omega) g0 (by first | omega | (dsimp only; omega))
--#rare
theorem rare_dr {l : List Int} (hl : Byt l) (s1 s2 n : Int) (n0 : 2 ≤ n) (n1 : n ≤ 60000) (h0 : 0 ≤ s1) (h1 : s1 + 4 ≤ lim) : Dr (fun r => 0 ≤ r ∧ r < n) 4 s1 fun k => spec_l1Cur_rare.f k l s1 s2 n := by
  unfold spec_l1Cur_rare.f
  refine Dr.mono (n := 2 + 2) ?_ (fun _ h => h) (by omega)
  refine Dr.bind (one_dr hl s1 s2 8 h0 (by omega)) fun c a1 a2 _ g0 g1 => ?_
  refine Dr.ite (fun _ => ?_) fun _ => Dr.now (by omega) g0 (by first | omega | (dsimp only; omega))
  have e : wrap64 (n - 1) = n - 1 := w64 (by omega) (by omega)
  rw [e]
  refine Dr.mono (Dr.bind (n := 2) (m := 0) (pick_dr hl a1 a2 (n - 1) g0 (by omega)) fun y b1 b2 hy g2 g3 => ?_) (fun _ h => h) (by omega)
  have hy2 := hy.2.1 (by omega)
  rw [w64 (x := 1 + y) (by omega) (by omega)]
  exact Dr.now (by omega) g2 (by first | omega | (dsimp only; omega))

/-! ### what FnDedup draws -/
theorem draw_j2 {l : List Int} (hl : Byt l) (a b : List S37) (s1 s2 : Int) (ha : a.length ≤ 100) (hb : b.length ≤ 100) (h0 : 0 ≤ s1) (h1 : s1 + 100 ≤ lim) :
    ∃ r : List S37 × List S37 × Int, (r.1.length ≤ a.length + 1 ∧ r.2.1.length ≤ b.length + 1) ∧ Ev (fun k => spec_DrawDedupSamples.j2 k a b l s1 s2) r := by
  have key : ∃ r : List S37 × List S37 × Int, (r.1.length ≤ a.length + 1 ∧ r.2.1.length ≤ b.length + 1) ∧ Ev (fun k => spec_DrawDedupSamples.j2 (k + 1) a b l s1 s2) r := by
    simp only [spec_DrawDedupSamples.j2]
    refine Dr.then (oddSamples_dr hl s1 s2 a (by omega) h0 (by omega)) fun x a1 a2 hx g0 g1 => ?_
    refine Dr.then (oddSamples_dr hl a1 a2 b (by omega) g0 (by omega)) fun y b1 b2 hy g2 g3 => ?_
    refine Dr.then (pick_dr hl b1 b2 40 g2 (by omega)) fun z c1 c2 _ g4 g5 => ?_
    simp only [Option.bind_some]
    refine Dr.then (rare_dr hl c1 c2 4 (by omega) (by omega) g4 (by omega)) fun q d1 d2 hq g6 g7 => ?_
    simp only []
    rw [if_pos hq.1, if_pos (by simpa using hq.2)]
    exact ⟨_, ⟨hx, hy⟩, Ev.now _⟩
  obtain ⟨r, hr, he⟩ := key
  exact ⟨r, hr, ev_succ he⟩
theorem draw_l1 {l : List Int} (hl : Byt l) (a : List S37) (ha : a.length ≤ 100) : ∀ (n : Nat) (b : List S37) (i : Int) (s1 s2 : Int), i ≤ n → -10 ≤ i → i < b.length → b.length ≤ 100 → 0 ≤ s1 → s1 + 100 ≤ lim →
    ∃ r : List S37 × List S37 × Int, (r.1.length ≤ 200 ∧ r.2.1.length ≤ 200) ∧ Ev (fun k => spec_DrawDedupSamples.l1 k a b i l s1 s2) r := by
  have low : ∀ (b : List S37) (i : Int) (s1 s2 : Int), ¬ i > 0 → b.length ≤ 100 → 0 ≤ s1 → s1 + 100 ≤ lim →
      ∃ r : List S37 × List S37 × Int, (r.1.length ≤ 200 ∧ r.2.1.length ≤ 200) ∧ Ev (fun k => spec_DrawDedupSamples.l1 k a b i l s1 s2) r := by
    intro b i s1 s2 hi hb h0 h1
    obtain ⟨r, hr, he⟩ := draw_j2 hl a b s1 s2 ha hb h0 h1
    refine ⟨r, by omega, ev_succ (Ev.congr (fun k => ?_) he)⟩
    simp only [spec_DrawDedupSamples.l1]
    rw [if_neg hi]
  intro n
  induction n with
  | zero =>
    intro b i s1 s2 hi _ _ hb h0 h1
    exact low b i s1 s2 (by omega) hb h0 h1
  | succ n ih =>
    intro b i s1 s2 hi hi2 hib hb h0 h1
    by_cases c : i > 0
    · have e : wrap64 (i - 1) = i - 1 := w64 (by omega) (by omega)
      have e2 : wrap64 (i + 1) = i + 1 := w64 (by omega) (by omega)
      by_cases d : (rd_T37 b i).f0 ≤ (rd_T37 b (i - 1)).f0
      · have hlen : (b.eraseIdx i.toNat).length = b.length - 1 := List.length_eraseIdx_of_lt (by omega)
        obtain ⟨r, hr, he⟩ := ih (b.eraseIdx i.toNat) (i - 1) s1 s2 (by omega) (by omega) (by omega) (by omega) h0 h1
        refine ⟨r, hr, ev_succ (Ev.congr (fun k => ?_) he)⟩
        simp only [spec_DrawDedupSamples.l1]
        rw [if_pos c, if_pos (by omega), if_pos hib, e, e2, if_pos (by omega), if_pos (by omega), if_pos d, if_pos (by omega), if_pos (by omega), if_pos (by omega)]
      · obtain ⟨r, hr, he⟩ := ih b (i - 1) s1 s2 (by omega) (by omega) (by omega) hb h0 h1
        refine ⟨r, hr, ev_succ (Ev.congr (fun k => ?_) he)⟩
        simp only [spec_DrawDedupSamples.l1]
        rw [if_pos c, if_pos (by omega), if_pos hib, e, if_pos (by omega), if_pos (by omega), if_neg d]
    · exact low b i s1 s2 c hb h0 h1
theorem draw_l0 {l : List Int} (hl : Byt l) (a : List S37) (ha : a.length ≤ 100) (rest : List S37) : ∀ (pre b : List S37) (s1 s2 : Int), pre ++ rest = a → b.length + rest.length ≤ 100 → 0 ≤ s1 → s1 + (100 + 4 * rest.length) ≤ lim →
    ∃ r : List S37 × List S37 × Int, (r.1.length ≤ 200 ∧ r.2.1.length ≤ 200) ∧ Ev (fun k => spec_DrawDedupSamples.l0 k a b a (a.length : Int) (pre.length : Int) l s1 s2) r := by
  induction rest with
  | nil =>
    intro pre b s1 s2 hp hb h0 h1
    have hpa : pre.length = a.length := by rw [← hp]; simp
    obtain ⟨r, hr, he⟩ := draw_l1 hl a ha b.length b ((b.length : Int) - 1) s1 s2 (by omega) (by omega) (by omega) (by simp at hb; omega) h0 (by simp at h1; omega)
    refine ⟨r, hr, ev_succ (Ev.congr (fun k => ?_) he)⟩
    simp only [spec_DrawDedupSamples.l0]
    rw [if_neg (by omega), w64 (x := (b.length : Int) - 1) (by omega) (by simp at hb; omega)]
  | cons x rest ih =>
    intro pre b s1 s2 hp hb h0 h1
    have hpa : pre.length + (rest.length + 1) = a.length := by rw [← hp]; simp
    have hb' : b.length + (rest.length + 1) ≤ 100 := by simpa using hb
    have h1' : s1 + (100 + 4 * (rest.length + 1)) ≤ lim := by simpa using h1
    have e5 : wrap64 ((pre.length : Int) + 1) = ((pre ++ [x]).length : Int) := by rw [len_succ]; exact w64 (by omega) (by omega)
    have hp2 : (pre ++ [x]) ++ rest = a := by rw [← hp]; simp
    have key : ∃ r : List S37 × List S37 × Int, (r.1.length ≤ 200 ∧ r.2.1.length ≤ 200) ∧ Ev (fun k => spec_DrawDedupSamples.l0 (k + 1) a b a (a.length : Int) (pre.length : Int) l s1 s2) r := by
      simp only [spec_DrawDedupSamples.l0]
      simp only [if_pos (show (pre.length : Int) < a.length by omega), if_pos (show (0 : Int) ≤ pre.length by omega), e5]
      refine Dr.then (one_dr hl s1 s2 3 h0 (by omega)) fun c a1 a2 _ g0 g1 => ?_
      by_cases hc : c = true
      · simp only [hc, if_true]
        exact ih (pre ++ [x]) b a1 a2 hp2 (by omega) g0 (by omega)
      · simp only [if_neg hc]
        refine Dr.then (pick_dr hl a1 a2 2 g0 (by omega)) fun y b1 b2 _ g2 g3 => ?_
        simp only [if_pos (show b.length < 8796093022208 by omega)]
        exact ih (pre ++ [x]) _ b1 b2 hp2 (by simp; omega) g2 (by omega)
    obtain ⟨r, hr, he⟩ := key
    exact ⟨r, hr, ev_succ he⟩
theorem draw_ev {l : List Int} (hl : Byt l) : ∃ r : List S37 × List S37 × Int, (r.1.length ≤ 200 ∧ r.2.1.length ≤ 200) ∧ Ev (fun k => spec_DrawDedupSamples.f k l) r := by
  have hlim : lim = 4611686018427387904 := rfl
  unfold spec_DrawDedupSamples.f
  refine Dr.then (pick_dr hl 0 0 20 (by omega) (by omega)) fun x a1 a2 _ g0 g1 => ?_
  refine Dr.then (samples_dr hl a1 a2 x 20 (by omega) (by omega) g0 (by omega)) fun a b1 b2 ha g2 g3 => ?_
  refine Dr.then (pick_dr hl b1 b2 20 g2 (by omega)) fun y c1 c2 _ g4 g5 => ?_
  refine Dr.then (samples_dr hl c1 c2 y 20 (by omega) (by omega) g4 (by omega)) fun b d1 d2 hb g6 g7 => ?_
  refine Dr.then (one_dr hl d1 d2 3 g6 (by omega)) fun c e1 e2 _ g8 g9 => ?_
  by_cases hc : c = true
  · simp only [hc, if_true]
    exact draw_l0 hl a (by omega) a [] [] e1 e2 rfl (by simp; omega) g8 (by omega)
  · simp only [if_neg hc]
    obtain ⟨r, hr, he⟩ := draw_j2 hl a b e1 e2 (by omega) (by omega) g8 (by omega)
    exact ⟨r, by omega, he⟩

/-! ### good samples -/
theorem rd_at (l : List S37) (i : Nat) (h : i < l.length) : rd_T37 l (i : Int) = l[i] := by
  unfold rd_T37
  rw [Int.toNat_natCast]
  exact getD_at l i _ h
def timeB (t : Int) : Bool := decide (0 ≤ t ∧ t ≤ 1000000000000)
def okAt (l : List S37) (i : Nat) : Bool := timeB (rd_T37 l i).f0 && (decide (i = 0) || decide ((rd_T37 l ((i : Int) - 1)).f0 < (rd_T37 l i).f0))
def goodB (l : List S37) : Bool := decide (l.length ≤ 2000) && allFrom (okAt l) l.length 0
theorem l3Time_f (t : Int) : spec_l3Time.f t = some (timeB t) := by
  unfold spec_l3Time.f timeB
  by_cases h : t ≥ 0 <;> simp [h] <;> omega
theorem isTime_f (t : Int) : impl_isTime.f t = some (timeB t) := by
  unfold impl_isTime.f timeB
  by_cases h : t ≥ 0 <;> simp [h] <;> omega
theorem specGood_loop (l : List S37) (hn : l.length ≤ 9223372036854775000) : ∀ i, i ≤ l.length → Ev (fun k => spec_GoodSamples.l0 k l l (l.length : Int) (i : Int)) (decide (l.length ≤ 2000) && allFrom (okAt l) l.length i) := by
  refine down ?_ ?_
  · refine ev_succ (ev_now fun k => ?_)
    simp only [spec_GoodSamples.l0, Int.lt_irrefl, if_false, allFrom_end]
    rw [Bool.and_true]
    congr 1
    rw [decide_eq_decide]; omega
  · intro i hi h
    rw [allFrom_step hi]
    have e5 := w64_succ hi (by omega : l.length ≤ 9223372036854775807)
    have e6 : wrap64 ((i : Int) - 1) = (i : Int) - 1 := w64 (by omega) (by omega)
    have jt : Ev (fun k => spec_GoodSamples.j1 k l l (l.length : Int) (i : Int) true) false := ev_succ (ev_now fun k => by simp [spec_GoodSamples.j1])
    have jf : Ev (fun k => spec_GoodSamples.j1 k l l (l.length : Int) (i : Int) false) (decide (l.length ≤ 2000) && allFrom (okAt l) l.length (i + 1)) := ev_succ (Ev.congr (fun k => by simp only [spec_GoodSamples.j1, Bool.false_eq_true, if_false, e5]) h)
    refine ev_succ ?_
    simp only [spec_GoodSamples.l0]
    simp only [if_pos (show (i : Int) < l.length by omega), if_pos (show (0 : Int) ≤ i by omega), l3Time_f, Option.bind_some]
    by_cases ht : timeB (rd_T37 l i).f0 = true
    · simp only [if_pos ht]
      by_cases h0 : i = 0
      · have hok : okAt l i = true := by simp [okAt, ht, h0]; subst h0; exact ht
        rw [hok, Bool.true_and]
        simp only [if_neg (show ¬ (i : Int) > 0 by omega)]
        exact jf
      · simp only [if_pos (show (i : Int) > 0 by omega), e6, if_pos (show (0 : Int) ≤ (i : Int) - 1 by omega), if_pos (show (i : Int) - 1 < l.length by omega)]
        by_cases hlt : (rd_T37 l ((i : Int) - 1)).f0 < (rd_T37 l i).f0
        · have hok : okAt l i = true := by simp [okAt, ht, hlt]
          rw [hok, Bool.true_and, show decide ((rd_T37 l ((i : Int) - 1)).f0 ≥ (rd_T37 l i).f0) = false from decide_eq_false (by omega)]
          exact jf
        · have hok : okAt l i = false := by simp [okAt, ht, hlt, h0]
          rw [hok, Bool.false_and, Bool.and_false, show decide ((rd_T37 l ((i : Int) - 1)).f0 ≥ (rd_T37 l i).f0) = true from decide_eq_true (by omega)]
          exact jt
    · have hok : okAt l i = false := by simp [okAt, ht]
      rw [hok, Bool.false_and, Bool.and_false]
      simp only [if_neg ht]
      exact jt
theorem specGood_ev (l : List S37) (hn : l.length ≤ 9223372036854775000) : Ev (fun k => spec_GoodSamples.f k l) (goodB l) := specGood_loop l hn 0 (Nat.zero_le _)
theorem implGood_loop (l : List S37) (hn : l.length ≤ 9223372036854775000) : ∀ i, i ≤ l.length → Ev (fun k => impl_GoodSamples.l0 k l l (l.length : Int) (i : Int)) (allFrom (okAt l) l.length i) := by
  refine down ?_ ?_
  · refine ev_succ (ev_now fun k => ?_)
    simp only [impl_GoodSamples.l0, Int.lt_irrefl, if_false, allFrom_end]
  · intro i hi h
    rw [allFrom_step hi]
    have e5 := w64_succ hi (by omega : l.length ≤ 9223372036854775807)
    have e6 : wrap64 ((i : Int) - 1) = (i : Int) - 1 := w64 (by omega) (by omega)
    have jt : Ev (fun k => impl_GoodSamples.j1 k l l (l.length : Int) (i : Int) true) false := ev_succ (ev_now fun k => by simp [impl_GoodSamples.j1])
    have jf : Ev (fun k => impl_GoodSamples.j1 k l l (l.length : Int) (i : Int) false) (allFrom (okAt l) l.length (i + 1)) := ev_succ (Ev.congr (fun k => by simp only [impl_GoodSamples.j1, Bool.false_eq_true, if_false, e5]) h)
    refine ev_succ ?_
    simp only [impl_GoodSamples.l0]
    simp only [if_pos (show (i : Int) < l.length by omega), if_pos (show (0 : Int) ≤ i by omega), isTime_f, Option.bind_some]
    by_cases ht : timeB (rd_T37 l i).f0 = true
    · simp only [if_pos ht]
      by_cases h0 : i = 0
      · have hok : okAt l i = true := by simp [okAt, ht, h0]; subst h0; exact ht
        rw [hok, Bool.true_and]
        simp only [if_neg (show ¬ (i : Int) > 0 by omega)]
        exact jf
      · simp only [if_pos (show (i : Int) > 0 by omega), e6, if_pos (show (0 : Int) ≤ (i : Int) - 1 by omega), if_pos (show (i : Int) - 1 < l.length by omega)]
        by_cases hlt : (rd_T37 l ((i : Int) - 1)).f0 < (rd_T37 l i).f0
        · have hok : okAt l i = true := by simp [okAt, ht, hlt]
          rw [hok, Bool.true_and, show decide ((rd_T37 l ((i : Int) - 1)).f0 ≥ (rd_T37 l i).f0) = false from decide_eq_false (by omega)]
          exact jf
        · have hok : okAt l i = false := by simp [okAt, ht, hlt, h0]
          rw [hok, Bool.false_and, show decide ((rd_T37 l ((i : Int) - 1)).f0 ≥ (rd_T37 l i).f0) = true from decide_eq_true (by omega)]
          exact jt
    · have hok : okAt l i = false := by simp [okAt, ht]
      rw [hok, Bool.false_and]
      simp only [if_neg ht]
      exact jt
theorem implGood_ev (l : List S37) (hn : l.length ≤ 9223372036854775000) : Ev (fun k => impl_GoodSamples.f k l) (goodB l) := by
  unfold goodB
  by_cases h : l.length ≤ 2000
  · have h1 := implGood_loop l hn 0 (Nat.zero_le _)
    simp only [h, decide_true, Bool.true_and]
    refine Ev.congr (fun k => ?_) h1
    unfold impl_GoodSamples.f
    rw [if_neg (by omega)]; rfl
  · simp only [h, decide_false, Bool.false_and]
    refine ev_now fun k => ?_
    unfold impl_GoodSamples.f
    rw [if_pos (by omega)]
/-- What good samples are. -/
structure Good (l : List S37) : Prop where
  len : l.length ≤ 2000
  lo : ∀ i, (h : i < l.length) → 0 ≤ (l[i]).f0 ∧ (l[i]).f0 ≤ 1000000000000
  up : ∀ i j, (hi : i < l.length) → (hj : j < l.length) → i < j → (l[i]).f0 < (l[j]).f0
theorem good_of {l : List S37} (h : goodB l = true) : Good l := by
  unfold goodB at h
  simp only [Bool.and_eq_true, decide_eq_true_eq] at h
  obtain ⟨h1, h2⟩ := h
  rw [allFrom_iff] at h2
  have h3 : ∀ i, (h : i < l.length) → timeB (l[i]).f0 = true ∧ (i = 0 ∨ (rd_T37 l ((i : Int) - 1)).f0 < (l[i]).f0) := by
    intro i hi
    have h4 := h2 i (Nat.zero_le _) hi
    unfold okAt at h4
    rw [rd_at l i hi] at h4
    simpa using h4
  refine ⟨h1, fun i hi => by have := (h3 i hi).1; simpa [timeB] using this, ?_⟩
  have step : ∀ i, (hi : i + 1 < l.length) → (l[i]).f0 < (l[i + 1]).f0 := by
    intro i hi
    rcases (h3 (i + 1) hi).2 with h5 | h5
    · omega
    · rw [show ((i + 1 : Nat) : Int) - 1 = (i : Int) from by omega, rd_at l i (by omega)] at h5
      exact h5
  intro i j hi hj hij
  obtain ⟨d, rfl⟩ : ∃ d, j = i + 1 + d := ⟨j - i - 1, by omega⟩
  clear hij
  induction d with
  | zero => exact step i hj
  | succ d ih => exact Int.lt_trans (ih (by omega)) (step (i + 1 + d) hj)


/-! ### the first sample behind a time -/
def beh (l : List S37) (t : Int) : Option S37 := l.find? fun s => decide (s.f0 > t)
def tell : Option S37 → Int × Int × Bool
  | some s => (s.f0, s.f1, true)
  | none => (0, 0, false)
theorem cmp_f (a b : Int) : cmp_Compare_int.f a b = some (if a < b then -1 else if a > b then 1 else 0) := by
  have h : ∀ x : Int, cmp_isNaN_int.f x = some false := fun x => by simp [cmp_isNaN_int.f]
  unfold cmp_Compare_int.f
  rw [h, h]
  simp only [Option.bind_some, Bool.false_eq_true, if_false]
  by_cases h1 : a < b
  · simp [h1]
  · by_cases h2 : a > b <;> simp [h1, h2]
theorem find1_f (a b t : Int) : impl_findSample_1.f a b t = some (if a < t then -1 else if a > t then 1 else 0) := by
  unfold impl_findSample_1.f
  rw [cmp_f]; rfl
/-- The place of the first one from t on. -/
theorem find_loop (l : List S37) (t : Int) (hg : Good l) : ∀ d lo hi : Nat, hi - lo = d → lo ≤ hi → hi ≤ l.length → (∀ j, (h : j < l.length) → j < lo → (l[j]).f0 < t) → (∀ j, (h : j < l.length) → hi ≤ j → t ≤ (l[j]).f0) →
    ∃ p : Nat, p ≤ l.length ∧ (∀ j, (h : j < l.length) → j < p → (l[j]).f0 < t) ∧ (∀ j, (h : j < l.length) → p ≤ j → t ≤ (l[j]).f0) ∧ ∃ b, Ev (fun k => impl_Sample_int_at_impl_findSample_1.l0 k l t (l.length : Int) (lo : Int) (hi : Int)) ((p : Int), b) := by
  intro d
  induction d using Nat.strongRecOn with
  | _ d ih =>
    intro lo hi hd hle hh hlo hhi
    have hn := hg.len
    by_cases hlt : lo < hi
    · obtain ⟨m, hm⟩ : ∃ m, m = (lo + hi) / 2 := ⟨_, rfl⟩
      have hmid : wrap64 ((IntKind.u64.wrap (wrap64 ((lo : Int) + hi))) / 2) = (m : Int) := by
        rw [w64 (x := (lo : Int) + hi) (by omega) (by omega), wu64 (by omega) (by omega), w64 (by omega) (by omega)]
        omega
      have hml : m < l.length := by omega
      by_cases hc : (l[m]).f0 < t
      · obtain ⟨p, h1, h2, h3, b, h4⟩ := ih (hi - (m + 1)) (by omega) (m + 1) hi rfl (by omega) hh (fun j hj hjm => by
          by_cases e : j = m
          · subst e; exact hc
          · exact Int.lt_trans (hg.up j m hj hml (by omega)) hc) hhi
        refine ⟨p, h1, h2, h3, b, ev_succ (Ev.congr (fun k => ?_) h4)⟩
        simp only [impl_Sample_int_at_impl_findSample_1.l0, hmid]
        rw [if_pos (by omega : (lo : Int) < hi), if_pos (by omega : (0 : Int) ≤ m), if_pos (by omega : (m : Int) < l.length), find1_f, Option.bind_some, rd_at l m hml, if_pos hc, if_pos (by decide), w64 (by omega) (by omega)]
        rfl
      · obtain ⟨p, h1, h2, h3, b, h4⟩ := ih (m - lo) (by omega) lo m rfl (by omega) (by omega) hlo (fun j hj hjm => by
          by_cases e : j = m
          · subst e; omega
          · have := hg.up m j hml hj (by omega); omega)
        refine ⟨p, h1, h2, h3, b, ev_succ (Ev.congr (fun k => ?_) h4)⟩
        simp only [impl_Sample_int_at_impl_findSample_1.l0, hmid]
        rw [if_pos (by omega : (lo : Int) < hi), if_pos (by omega : (0 : Int) ≤ m), if_pos (by omega : (m : Int) < l.length), find1_f, Option.bind_some, rd_at l m hml, if_neg hc, if_neg (by split <;> decide)]
    · obtain rfl : lo = hi := by omega
      by_cases hl : lo < l.length
      · refine ⟨lo, hh, hlo, hhi, ((if (l[lo]).f0 < t then (-1 : Int) else if (l[lo]).f0 > t then 1 else 0) == 0), ev_succ (ev_now fun k => ?_)⟩
        simp only [impl_Sample_int_at_impl_findSample_1.l0]
        rw [if_neg (by omega), if_pos (by omega : (lo : Int) < l.length), if_pos (by omega : (0 : Int) ≤ lo), if_pos (by omega : (lo : Int) < l.length), find1_f, Option.bind_some, rd_at l lo hl]
      · refine ⟨lo, hh, hlo, hhi, false, ev_succ (ev_now fun k => ?_)⟩
        simp only [impl_Sample_int_at_impl_findSample_1.l0]
        rw [if_neg (by omega), if_neg (by omega)]
theorem implBehind_ev (l : List S37) (t : Int) (hg : Good l) (h0 : -9223372036854775808 ≤ t) (h1 : t ≤ 1000000000000) : Ev (fun k => impl_behind.f k l t) (tell (beh l t)) := by
  obtain ⟨p, hp, hlo, hhi, b, hev⟩ := find_loop l (t + 1) hg l.length 0 l.length rfl (Nat.zero_le _) (Nat.le_refl _) (fun j _ h => absurd h (by omega)) (fun j h h' => absurd h (by omega))
  have e0 : wrap64 (t + 1) = t + 1 := w64 (by omega) (by omega)
  have e1 : Ev (fun k => impl_findSample.f k l (t + 1)) ((p : Int), b) := by
    have h2 : Ev (fun k => impl_Sample_int_at_impl_findSample_1.f k l (t + 1)) ((p : Int), b) := hev
    refine Ev.bind (f := fun _ x => some (x.1, x.2)) h2 ?_
    exact Ev.now _
  unfold impl_behind.f
  rw [e0]
  refine Ev.bind e1 ?_
  by_cases hl : p = l.length
  · refine ev_now fun k => ?_
    simp only []
    rw [if_pos (by omega)]
    have : beh l t = none := by
      unfold beh
      rw [List.find?_eq_none]
      intro s hs
      obtain ⟨j, hj, rfl⟩ := List.getElem_of_mem hs
      have := hlo j hj (by omega)
      simp; omega
    rw [this]; rfl
  · have hpl : p < l.length := by omega
    refine ev_now fun k => ?_
    simp only []
    rw [if_neg (by omega), if_pos (by omega : (0 : Int) ≤ p), if_pos (by omega : (p : Int) < l.length), rd_at l p hpl]
    have : beh l t = some l[p] := by
      unfold beh
      rw [List.find?_eq_some_iff_getElem]
      refine ⟨by have := hhi p hpl (Nat.le_refl _); simp; omega, p, hpl, rfl, fun j hj => ?_⟩
      have := hlo j (by omega) hj
      simp; omega
    rw [this]; rfl
theorem beh_some {l : List S37} {t : Int} {s : S37} (h : beh l t = some s) : s ∈ l ∧ t < s.f0 := by
  unfold beh at h
  exact ⟨List.mem_of_find?_eq_some h, by have := List.find?_some h; simpa using this⟩
theorem beh_none {l : List S37} {t : Int} (h : beh l t = none) : ∀ s ∈ l, s.f0 ≤ t := by
  unfold beh at h
  rw [List.find?_eq_none] at h
  intro s hs
  have := h s hs
  simpa using this
/-- How many come later. -/
def later (l : List S37) (t : Int) : Nat := (l.filter fun s => decide (t < s.f0)).length
theorem later_le (l : List S37) (t : Int) : later l t ≤ l.length := List.length_filter_le _ _
theorem later_mono (l : List S37) {t u : Int} (h : t ≤ u) : later l u ≤ later l t := by
  unfold later
  induction l with
  | nil => simp
  | cons x l ih =>
    simp only [List.filter_cons]
    by_cases h1 : u < x.f0
    · have h2 : t < x.f0 := by omega
      simp only [h1, h2, decide_true, if_true, List.length_cons]
      omega
    · by_cases h2 : t < x.f0 <;> simp [h1, h2] <;> omega
theorem later_lt {l : List S37} {t : Int} {s : S37} (hs : s ∈ l) (h : t < s.f0) : later l s.f0 < later l t := by
  unfold later
  induction l with
  | nil => simp at hs
  | cons x l ih =>
    simp only [List.filter_cons]
    rcases List.mem_cons.1 hs with rfl | hs
    · have h1 := later_mono l (Int.le_of_lt h)
      unfold later at h1
      simp only [h, Int.lt_irrefl, decide_true, decide_false, if_true, Bool.false_eq_true, if_false, List.length_cons]
      omega
    · have h1 := ih hs
      by_cases h2 : s.f0 < x.f0
      · have h3 : t < x.f0 := by omega
        simp only [h2, h3, decide_true, if_true, List.length_cons]
        omega
      · by_cases h3 : t < x.f0 <;> simp [h2, h3] <;> omega
theorem last_at (out : List S37) (z : S37) : rd_T37 (out ++ [z]) (wrap64 (((out ++ [z]).length : Int) - 1)) = z ∨ 9223372036854775000 < (out ++ [z]).length := by
  by_cases h : 9223372036854775000 < (out ++ [z]).length
  · exact .inr h
  · left
    rw [len_succ, w64 (by simp at h; omega) (by simp at h; omega), show ((out.length : Int) + 1 - 1) = (out.length : Int) from by omega]
    unfold rd_T37
    rw [Int.toNat_natCast]
    exact getD_mid out [] z _


/-- s may be told next behind z. -/
def Nx (gap : Int) (a b : List S37) (z s : S37) : Prop := (s ∈ a ∨ s ∈ b) ∧ z.f0 < s.f0 ∧ (z.f0 + gap < s.f0 → ∀ q, q ∈ a ∨ q ∈ b → ¬ (z.f0 < q.f0 ∧ q.f0 < s.f0))
/-- The list may be told behind z. -/
def Walk (gap : Int) (a b : List S37) : S37 → List S37 → Prop
  | _, [] => True
  | z, s :: t => Nx gap a b z s ∧ Walk gap a b s t
theorem Walk.symm {gap : Int} {a b : List S37} : ∀ {t : List S37} {z : S37}, Walk gap a b z t → Walk gap b a z t
  | [], _, _ => trivial
  | s :: t, z, ⟨⟨h1, h2, h3⟩, h4⟩ => ⟨⟨h1.symm, h2, fun h q hq => h3 h q hq.symm⟩, Walk.symm h4⟩
theorem good_pw {l : List S37} (g : Good l) : l.Pairwise fun x y => x.f0 < y.f0 := by
  rw [List.pairwise_iff_getElem]
  exact fun i j hi hj h => g.up i j hi hj h
/-- Of a series that rises: behind z comes its first later one, then what is later than that. -/
theorem beh_filter : ∀ {l : List S37}, l.Pairwise (fun x y => x.f0 < y.f0) → ∀ (t : Int), (l.filter fun s => decide (t < s.f0)) = match beh l t with | none => [] | some s => s :: l.filter fun q => decide (s.f0 < q.f0)
  | [], _, t => by simp [beh]
  | x :: l, hp, t => by
    obtain ⟨h1, h2⟩ := List.pairwise_cons.1 hp
    by_cases h : t < x.f0
    · have hb : beh (x :: l) t = some x := by simp [beh, h]
      rw [hb]
      have e1 : (l.filter fun s => decide (t < s.f0)) = l := List.filter_eq_self.2 fun q hq => by have := h1 q hq; simp; omega
      have e2 : (l.filter fun s => decide (x.f0 < s.f0)) = l := List.filter_eq_self.2 fun q hq => by have := h1 q hq; simpa using this
      simp [List.filter_cons, h, e1, e2]
    · have hb : beh (x :: l) t = beh l t := by simp [beh, h]
      rw [hb, List.filter_cons, if_neg (by simpa using h), beh_filter h2 t]
      cases hq : beh l t with
      | none => rfl
      | some s =>
        have hs := beh_some hq
        have := h1 s hs.1
        simp only [List.filter_cons]
        rw [if_neg (by simp; omega)]
/-- The program's loop. -/
theorem dedup_loop (gap : Int) (g0 : 0 ≤ gap) (g1 : gap ≤ 1000000) : ∀ (m : Nat) (a b : List S37), Good a → Good b → ∀ (out : List S37) (z : S37), 0 ≤ z.f0 → z.f0 ≤ 1000000000000 → later a z.f0 + later b z.f0 = m → out.length + m ≤ 10000 →
    ∃ t : List S37, t.length ≤ m ∧ Walk gap a b z t ∧ Ev (fun k => impl_dedup.l0 k a b gap (out ++ [z])) ((out ++ [z]) ++ t) ∧ (b = a → t = a.filter fun s => decide (z.f0 < s.f0)) := by
  intro m
  induction m using Nat.strongRecOn with
  | _ m ih =>
    intro a b ga gb out z hz0 hz1 hm hout
    have hlast : rd_T37 (out ++ [z]) (wrap64 (((out ++ [z]).length : Int) - 1)) = z := by
      rcases last_at out z with h | h
      · exact h
      · simp at h; omega
    have hL : wrap64 (((out ++ [z]).length : Int) - 1) = (out.length : Int) := by rw [len_succ, w64 (by omega) (by omega)]; omega
    have i1 : (0 : Int) ≤ wrap64 (((out ++ [z]).length : Int) - 1) := by rw [hL]; omega
    have i2 : wrap64 (((out ++ [z]).length : Int) - 1) < ((out ++ [z]).length : Int) := by rw [hL, len_succ]; omega
    have ia := implBehind_ev a z.f0 ga (by omega) hz1
    have ib := implBehind_ev b z.f0 gb (by omega) hz1
    have hcap : (out ++ [z]).length < 8796093022208 := by simp; omega
    have hgap : wrap64 (z.f0 + gap) = z.f0 + gap := w64 (by omega) (by omega)
    have fa := beh_filter (good_pw ga) z.f0
    have fb := beh_filter (good_pw gb) z.f0
    have round : ∀ r, Ev (fun k => if (tell (beh a z.f0)).2.2 = true then (impl_dedup.j3 k a b gap (out ++ [z]) z.f0 (tell (beh a z.f0)).2.2 (tell (beh b z.f0)).2.2 false (tell (beh a z.f0)).1 (tell (beh a z.f0)).2.1 (tell (beh b z.f0)).1 (tell (beh b z.f0)).2.1) else (impl_dedup.j3 k a b gap (out ++ [z]) z.f0 (tell (beh a z.f0)).2.2 (tell (beh b z.f0)).2.2 (!(tell (beh b z.f0)).2.2) (tell (beh a z.f0)).1 (tell (beh a z.f0)).2.1 (tell (beh b z.f0)).1 (tell (beh b z.f0)).2.1)) r → Ev (fun k => impl_dedup.l0 k a b gap (out ++ [z])) r := by
      intro r h
      refine ev_succ ?_
      simp only [impl_dedup.l0]
      simp only [if_pos i1, if_pos i2, hlast]
      exact Ev.bind ia (Ev.bind ib h)
    have take_a : ∀ s, beh a z.f0 = some s → (z.f0 + gap < s.f0 → ∀ q, q ∈ a ∨ q ∈ b → ¬ (z.f0 < q.f0 ∧ q.f0 < s.f0)) → ∃ t : List S37, t.length ≤ m ∧ Walk gap a b z t ∧ Ev (fun k => impl_dedup.l0 k a b gap ((out ++ [z]) ++ [s])) ((out ++ [z]) ++ t) ∧ (b = a → t = a.filter fun s => decide (z.f0 < s.f0)) := by
      intro s hs hq
      obtain ⟨hin, hlt⟩ := beh_some hs
      obtain ⟨q, hql, rfl⟩ := List.getElem_of_mem hin
      have hr := ga.lo q hql
      have l1 := later_lt hin hlt
      have l2 := later_mono b (Int.le_of_lt hlt)
      obtain ⟨t, t1, t2, t3, t4⟩ := ih (later a (a[q]).f0 + later b (a[q]).f0) (by omega) a b ga gb (out ++ [z]) a[q] hr.1 hr.2 rfl (by simp; omega)
      refine ⟨a[q] :: t, by simp; omega, ⟨⟨.inl hin, hlt, hq⟩, t2⟩, ev_eq t3 (by simp), fun hb => ?_⟩
      rw [fa, hs, t4 hb]
    have take_b : ∀ s, beh b z.f0 = some s → b ≠ a → (z.f0 + gap < s.f0 → ∀ q, q ∈ a ∨ q ∈ b → ¬ (z.f0 < q.f0 ∧ q.f0 < s.f0)) → ∃ t : List S37, t.length ≤ m ∧ Walk gap a b z t ∧ Ev (fun k => impl_dedup.l0 k b a gap ((out ++ [z]) ++ [s])) ((out ++ [z]) ++ t) ∧ (b = a → t = a.filter fun s => decide (z.f0 < s.f0)) := by
      intro s hs hne hq
      obtain ⟨hin, hlt⟩ := beh_some hs
      obtain ⟨q, hql, rfl⟩ := List.getElem_of_mem hin
      have hr := gb.lo q hql
      have l1 := later_lt hin hlt
      have l2 := later_mono a (Int.le_of_lt hlt)
      obtain ⟨t, t1, t2, t3, _⟩ := ih (later b (b[q]).f0 + later a (b[q]).f0) (by omega) b a gb ga (out ++ [z]) b[q] hr.1 hr.2 rfl (by simp; omega)
      exact ⟨b[q] :: t, by simp; omega, ⟨⟨.inr hin, hlt, hq⟩, t2.symm⟩, ev_eq t3 (by simp), fun hb => absurd hb hne⟩
    have noneA : beh a z.f0 = none → ∀ q ∈ a, ¬ z.f0 < q.f0 := fun h q hq => by have := beh_none h q hq; omega
    have noneB : beh b z.f0 = none → ∀ q ∈ b, ¬ z.f0 < q.f0 := fun h q hq => by have := beh_none h q hq; omega
    have firstOf : ∀ {l : List S37} {s : S37}, Good l → beh l z.f0 = some s → ∀ q ∈ l, z.f0 < q.f0 → s.f0 ≤ q.f0 := by
      intro l s gl hs q hq hlt
      have hf := beh_filter (good_pw gl) z.f0
      rw [hs] at hf
      have hm : q ∈ l.filter fun s => decide (z.f0 < s.f0) := List.mem_filter.2 ⟨hq, by simpa using hlt⟩
      rw [hf] at hm
      rcases List.mem_cons.1 hm with rfl | hm
      · exact Int.le_refl _
      · have := (List.mem_filter.1 hm).2
        simp at this; omega
    cases ea : beh a z.f0 with
    | none =>
      cases eb : beh b z.f0 with
      | none =>
        refine ⟨[], by simp, trivial, round _ ?_, fun _ => by rw [fa, ea]⟩
        rw [ea, eb, List.append_nil]
        simp only [tell, Bool.false_eq_true, if_false]
        refine ev_succ (ev_now fun k => ?_)
        simp only [impl_dedup.j3, Bool.not_false, if_true]
      | some y =>
        have hne : b ≠ a := by rintro rfl; rw [ea] at eb; cases eb
        obtain ⟨t, t1, t2, t3, t4⟩ := take_b y eb hne (fun _ q hq hh => by
          rcases hq with hq | hq
          · exact noneA ea q hq hh.1
          · have := firstOf gb eb q hq hh.1; omega)
        refine ⟨t, t1, t2, round _ ?_, t4⟩
        rw [ea, eb]
        simp only [tell, Bool.false_eq_true, if_false]
        refine ev_succ (ev_succ (Ev.congr (fun k => ?_) t3))
        simp only [impl_dedup.j3, impl_dedup.j4, Bool.not_true, Bool.false_eq_true, if_false, if_true, if_pos hcap]
    | some x =>
      have keep : (¬ (x.f0 > z.f0 + gap) ∨ beh b z.f0 = none ∨ ∃ y, beh b z.f0 = some y ∧ ¬ y.f0 < x.f0) →
          ∃ t : List S37, t.length ≤ m ∧ Walk gap a b z t ∧ Ev (fun k => impl_dedup.l0 k a b gap (out ++ [z])) ((out ++ [z]) ++ t) ∧ (b = a → t = a.filter fun s => decide (z.f0 < s.f0)) := by
        intro hc
        obtain ⟨t, t1, t2, t3, t4⟩ := take_a x ea (fun hg q hq hh => by
          rcases hq with hq | hq
          · have := firstOf ga ea q hq hh.1; omega
          · rcases hc with hc | hc | ⟨y, hy, hc⟩
            · exact absurd hg hc
            · exact noneB hc q hq hh.1
            · have := firstOf gb hy q hq hh.1; omega)
        refine ⟨t, t1, t2, round _ ?_, t4⟩
        rw [ea]
        simp only [tell, if_true]
        refine ev_succ (ev_succ (Ev.congr (fun k => ?_) t3))
        simp only [impl_dedup.j3, Bool.false_eq_true, if_false, if_true, hgap]
        have e4 : impl_dedup.j4 (k + 1) a b gap (out ++ [z]) false x.f0 x.f1 (tell (beh b z.f0)).1 (tell (beh b z.f0)).2.1 = impl_dedup.l0 k a b gap ((out ++ [z]) ++ [x]) := by
          simp only [impl_dedup.j4, Bool.false_eq_true, if_false, if_pos hcap]
        by_cases h1 : x.f0 > z.f0 + gap
        · rw [if_pos h1]
          rcases hc with hc | hc | ⟨y, hy, hc⟩
          · exact absurd h1 hc
          · rw [hc] at e4 ⊢; simp only [tell, Bool.false_eq_true, if_false] at e4 ⊢; exact e4
          · rw [hy] at e4 ⊢; simp only [tell, if_true] at e4 ⊢; rw [decide_eq_false hc]; exact e4
        · rw [if_neg h1]; exact e4
      cases eb : beh b z.f0 with
      | none => exact keep (.inr (.inl eb))
      | some y =>
        by_cases h1 : x.f0 > z.f0 + gap
        · by_cases h2 : y.f0 < x.f0
          · have hne : b ≠ a := by
              rintro rfl
              rw [ea] at eb
              obtain rfl := Option.some.inj eb
              omega
            obtain ⟨t, t1, t2, t3, t4⟩ := take_b y eb hne (fun _ q hq hh => by
              rcases hq with hq | hq
              · have := firstOf ga ea q hq hh.1; omega
              · have := firstOf gb eb q hq hh.1; omega)
            refine ⟨t, t1, t2, round _ ?_, t4⟩
            rw [ea, eb]
            simp only [tell, if_true]
            refine ev_succ (ev_succ (Ev.congr (fun k => ?_) t3))
            simp only [impl_dedup.j3, Bool.false_eq_true, if_false, if_true, hgap, if_pos h1]
            rw [decide_eq_true h2]
            simp only [impl_dedup.j4, if_true, if_pos hcap]
          · exact keep (.inr (.inr ⟨y, eb, h2⟩))
        · exact keep (.inl h1)
/-- From the first one of a on. -/
theorem dedup_from (gap : Int) (g0 : 0 ≤ gap) (g1 : gap ≤ 1000000) (x : S37) (a b : List S37) (ga : Good (x :: a)) (gb : Good b) :
    ∃ t : List S37, t.length ≤ a.length + b.length ∧ Walk gap (x :: a) b x t ∧ Ev (fun k => impl_dedup.j1 k (x :: a) b gap) (x :: t) ∧ (b = x :: a → t = a) := by
  have h0 := ga.lo 0 (by simp)
  have hp := List.pairwise_cons.1 (good_pw ga)
  have fx : ((x :: a).filter fun s => decide (x.f0 < s.f0)) = a := by
    rw [List.filter_cons, if_neg (by simp)]
    exact List.filter_eq_self.2 fun q hq => by have := hp.1 q hq; simpa using this
  have la : later (x :: a) x.f0 = a.length := by unfold later; rw [fx]
  have lb := later_le b x.f0
  have na := ga.len
  have nb := gb.len
  obtain ⟨t, t1, t2, t3, t4⟩ := dedup_loop gap g0 g1 _ (x :: a) b ga gb [] x h0.1 h0.2 rfl (by simp at *; omega)
  have hpos : (0 : Int) < ((x :: a).length : Int) := by simp only [List.length_cons]; omega
  refine ⟨t, by omega, t2, ev_succ (Ev.congr (fun k => ?_) t3), fun hb => by rw [t4 hb, fx]⟩
  simp only [impl_dedup.j1]
  rw [if_neg (by omega), if_pos hpos]; rfl
/-- What is told of two replicas. -/
theorem dedup_ev (gap : Int) (g0 : 0 ≤ gap) (g1 : gap ≤ 1000000) (a b : List S37) (ga : Good a) (gb : Good b) :
    ∃ r : List S37, r.length ≤ a.length + b.length ∧ Ev (fun k => impl_dedup.f k a b gap) r ∧ (b = a → r = a) ∧ ((r = [] ∧ a = [] ∧ b = []) ∨ ∃ x t, r = x :: t ∧ (x ∈ a ∨ x ∈ b) ∧ Walk gap a b x t) := by
  have nilj : ∀ l : List S37, Ev (fun k => impl_dedup.j1 k [] l gap) [] := fun l => ev_succ (ev_now fun k => by simp [impl_dedup.j1])
  cases a with
  | nil =>
    have hi : ∀ r, Ev (fun k => impl_dedup.j1 k b [] gap) r → Ev (fun k => impl_dedup.f k [] b gap) r := by
      intro r h
      unfold impl_dedup.f
      simp only [List.length_nil, Int.natCast_zero, if_true]
      refine ev_succ (Ev.congr (fun k => ?_) h)
      simp only [impl_dedup.j0, if_true]
    cases b with
    | nil => exact ⟨[], by simp, hi _ (nilj _), fun _ => rfl, .inl ⟨rfl, rfl, rfl⟩⟩
    | cons y b =>
      obtain ⟨t, t1, t2, t3, t4⟩ := dedup_from gap g0 g1 y b [] gb ga
      exact ⟨y :: t, by simp at *; omega, hi _ t3, fun h => by simp at h, .inr ⟨y, t, rfl, .inr (by simp), t2.symm⟩⟩
  | cons x a =>
    have h1 : ¬ (((x :: a).length : Int) = 0) := by simp only [List.length_cons]; omega
    have hj : ∀ c r, Ev (fun k => if c = true then impl_dedup.j1 k b (x :: a) gap else impl_dedup.j1 k (x :: a) b gap) r → Ev (fun k => impl_dedup.j0 k (x :: a) b gap c) r := by
      intro c r h
      refine ev_succ (Ev.congr (fun k => ?_) h)
      simp only [impl_dedup.j0]
    unfold impl_dedup.f
    simp only [if_neg h1]
    cases b with
    | nil =>
      obtain ⟨t, t1, t2, t3, t4⟩ := dedup_from gap g0 g1 x a [] ga gb
      refine ⟨x :: t, by simp at *; omega, ?_, fun h => by simp at h, .inr ⟨x, t, rfl, .inl (by simp), t2⟩⟩
      simp only [List.length_nil, Int.natCast_zero, if_neg (show ¬ ((0 : Int) > 0) by omega)]
      exact hj false _ (by simpa using t3)
    | cons y b =>
      have h2 : ((y :: b).length : Int) > 0 := by simp only [List.length_cons]; omega
      have h3 : (0 : Int) < ((x :: a).length : Int) := by simp only [List.length_cons]; omega
      simp only [if_pos h2, if_pos (show (0 : Int) < ((y :: b).length : Int) from h2), if_pos h3]
      have ey : rd_T37 (y :: b) 0 = y := rfl
      have ex : rd_T37 (x :: a) 0 = x := rfl
      rw [ex, ey]
      by_cases hc : y.f0 < x.f0
      · obtain ⟨t, t1, t2, t3, t4⟩ := dedup_from gap g0 g1 y b (x :: a) gb ga
        refine ⟨y :: t, by simp at *; omega, hj _ _ (by simpa [hc] using t3), fun h => ?_, .inr ⟨y, t, rfl, .inr (by simp), t2.symm⟩⟩
        simp at h
        rw [h.1] at hc
        omega
      · obtain ⟨t, t1, t2, t3, t4⟩ := dedup_from gap g0 g1 x a (y :: b) ga gb
        exact ⟨x :: t, by simp at *; omega, hj _ _ (by simpa [hc] using t3), fun h => by rw [t4 h], .inr ⟨x, t, rfl, .inl (by simp), t2⟩⟩


/-! ### cuts -/
theorem cut1_f (a b u v : Int) : impl_cut_1_with.f a b [u] [v] = some (decide (u ≤ a) && decide (a ≤ v)) := by
  have e1 : rd [u] 0 = u := rfl
  have e2 : rd [v] 0 = v := rfl
  unfold impl_cut_1_with.f
  rw [if_pos (by simp), e1, if_pos (by simp : (0 : Int) < (([v] : List Int).length : Int)), e2]
  by_cases h : a ≥ u
  · have h' : u ≤ a := h
    simp [h']
  · have h' : ¬ u ≤ a := h
    simp [h']
theorem implCut_loop (u v : Int) (rest : List S37) : ∀ (pre out : List S37), (pre ++ rest).length ≤ 1048576 → out.length + rest.length ≤ 1048576 →
    Ev (fun k => impl_Sample_at_impl_cut_1.l0 k out (pre ++ rest) ((pre ++ rest).length : Int) (pre.length : Int) [u] [v]) (out ++ rest.filter fun x => decide (u ≤ x.f0) && decide (x.f0 ≤ v)) := by
  induction rest with
  | nil =>
    intro pre out _ _
    refine ev_succ (ev_now fun k => ?_)
    simp [impl_Sample_at_impl_cut_1.l0]
  | cons x rest ih =>
    intro pre out hl ho
    have hlen : (pre ++ x :: rest).length = pre.length + 1 + rest.length := by simp; omega
    have hol : out.length + (rest.length + 1) ≤ 1048576 := by simpa using ho
    have e1 : (pre.length : Int) < ((pre ++ x :: rest).length : Int) := len_mid _ _ _
    have e3 : rd_T37 (pre ++ x :: rest) (pre.length : Int) = x := by unfold rd_T37; rw [Int.toNat_natCast]; exact getD_mid _ _ _ _
    have e5 : wrap64 ((pre.length : Int) + 1) = ((pre ++ [x]).length : Int) := by rw [len_succ]; exact w64 (by omega) (by omega)
    have ec : out.length < 8796093022208 := by omega
    by_cases ht : (decide (u ≤ x.f0) && decide (x.f0 ≤ v)) = true
    · have h := ih (pre ++ [x]) (out ++ [x]) (by simp at hl ⊢; omega) (by simp; omega)
      rw [← mid_assoc] at h
      have er : out ++ [x] ++ rest.filter (fun x => decide (u ≤ x.f0) && decide (x.f0 ≤ v)) = out ++ (x :: rest).filter fun x => decide (u ≤ x.f0) && decide (x.f0 ≤ v) := by rw [List.filter_cons, if_pos ht]; simp
      refine ev_eq (ev_succ (Ev.congr (fun k => ?_) h)) er
      simp only [impl_Sample_at_impl_cut_1.l0]
      rw [if_pos e1, if_pos (by omega : (0 : Int) ≤ pre.length), if_pos e1, e3]
      rw [cut1_f, Option.bind_some, if_pos ht]
      simp only [if_pos ec, e5]
    · have h := ih (pre ++ [x]) out (by simp at hl ⊢; omega) (by omega)
      rw [← mid_assoc] at h
      have er : out ++ rest.filter (fun x => decide (u ≤ x.f0) && decide (x.f0 ≤ v)) = out ++ (x :: rest).filter fun x => decide (u ≤ x.f0) && decide (x.f0 ≤ v) := by rw [List.filter_cons, if_neg ht]
      refine ev_eq (ev_succ (Ev.congr (fun k => ?_) h)) er
      simp only [impl_Sample_at_impl_cut_1.l0]
      rw [if_pos e1, if_pos (by omega : (0 : Int) ≤ pre.length), if_pos e1, e3]
      rw [cut1_f, Option.bind_some, if_neg ht]
      simp only [e5]
theorem specCut_loop (u v : Int) (rest : List S37) : ∀ (pre out : List S37), (pre ++ rest).length ≤ 1048576 → out.length + rest.length ≤ 1048576 →
    Ev (fun k => spec_l6Cut.l0 k u v out (pre ++ rest) ((pre ++ rest).length : Int) (pre.length : Int)) (out ++ rest.filter fun x => decide (u ≤ x.f0) && decide (x.f0 ≤ v)) := by
  induction rest with
  | nil =>
    intro pre out _ _
    refine ev_succ (ev_now fun k => ?_)
    simp [spec_l6Cut.l0]
  | cons x rest ih =>
    intro pre out hl ho
    have hlen : (pre ++ x :: rest).length = pre.length + 1 + rest.length := by simp; omega
    have hol : out.length + (rest.length + 1) ≤ 1048576 := by simpa using ho
    have e1 : (pre.length : Int) < ((pre ++ x :: rest).length : Int) := len_mid _ _ _
    have e3 : rd_T37 (pre ++ x :: rest) (pre.length : Int) = x := by unfold rd_T37; rw [Int.toNat_natCast]; exact getD_mid _ _ _ _
    have e5 : wrap64 ((pre.length : Int) + 1) = ((pre ++ [x]).length : Int) := by rw [len_succ]; exact w64 (by omega) (by omega)
    have ec : out.length < 8796093022208 := by omega
    by_cases ht : (decide (u ≤ x.f0) && decide (x.f0 ≤ v)) = true
    · have h := ih (pre ++ [x]) (out ++ [x]) (by simp at hl ⊢; omega) (by simp; omega)
      rw [← mid_assoc] at h
      have er : out ++ [x] ++ rest.filter (fun x => decide (u ≤ x.f0) && decide (x.f0 ≤ v)) = out ++ (x :: rest).filter fun x => decide (u ≤ x.f0) && decide (x.f0 ≤ v) := by rw [List.filter_cons, if_pos ht]; simp
      refine ev_eq (ev_succ (Ev.congr (fun k => ?_) h)) er
      simp only [spec_l6Cut.l0]
      rw [if_pos e1, if_pos (by omega : (0 : Int) ≤ pre.length), if_pos e1, e3]
      simp only [Bool.and_eq_true, decide_eq_true_eq] at ht
      rw [if_pos (show x.f0 ≥ u from ht.1), if_pos ht.2]
      simp only [if_pos ec, e5]
    · have h := ih (pre ++ [x]) out (by simp at hl ⊢; omega) (by omega)
      rw [← mid_assoc] at h
      have er : out ++ rest.filter (fun x => decide (u ≤ x.f0) && decide (x.f0 ≤ v)) = out ++ (x :: rest).filter fun x => decide (u ≤ x.f0) && decide (x.f0 ≤ v) := by rw [List.filter_cons, if_neg ht]
      refine ev_eq (ev_succ (Ev.congr (fun k => ?_) h)) er
      simp only [spec_l6Cut.l0]
      rw [if_pos e1, if_pos (by omega : (0 : Int) ≤ pre.length), if_pos e1, e3]
      rcases (show x.f0 < u ∨ (u ≤ x.f0 ∧ v < x.f0) by simp only [Bool.and_eq_true, decide_eq_true_eq] at ht; omega) with hu | hu
      · rw [if_neg (by omega)]
        simp only [e5]
      rw [if_pos (by omega), if_neg (by omega)]
      simp only [e5]
/-- What of a list lies from u to v. -/
def span (l : List S37) (u v : Int) : List S37 := l.filter fun x => decide (u ≤ x.f0) && decide (x.f0 ≤ v)
theorem implCut_ev (l : List S37) (u v : Int) (g : goodB l = true) : Ev (fun k => impl_CutSamples.f k l u v) (span l u v) := by
  have hl := (good_of g).len
  have h : Ev (fun k => impl_Sample_at_impl_cut_1.f k l [u] [v]) (span l u v) := implCut_loop u v l [] [] (by simp; omega) (by simp; omega)
  have h2 : Ev (fun k => impl_cut.f k l u v) (span l u v) := Ev.bind h (Ev.now _)
  unfold impl_CutSamples.f
  refine Ev.bind (implGood_ev l (by omega)) ?_
  simp only [if_pos g]
  exact Ev.bind h2 (Ev.now _)
theorem specCut_ev (l : List S37) (u v : Int) (hl : l.length ≤ 1048576) : Ev (fun k => spec_CutSamples.f k l u v) (if goodB l = true then span l u v else []) := by
  have h : Ev (fun k => spec_l6Cut.f k l u v) (span l u v) := specCut_loop u v l [] [] (by simpa using hl) (by simpa using hl)
  unfold spec_CutSamples.f
  refine Ev.bind (specGood_ev l (by omega)) ?_
  by_cases g : goodB l = true
  · simp only [if_pos g]
    exact Ev.bind h (Ev.now _)
  · simp only [if_neg g]
    exact Ev.now _
theorem span_mem {l : List S37} {u v : Int} {q : S37} : q ∈ span l u v ↔ q ∈ l ∧ u ≤ q.f0 ∧ q.f0 ≤ v := by
  unfold span
  rw [List.mem_filter]
  simp
/-- One time alone: at most the one sample. -/
theorem span_one {l : List S37} (g : Good l) {s : S37} (hs : s ∈ l) : ∃ t, span l s.f0 s.f0 = s :: t := by
  have hm : s ∈ span l s.f0 s.f0 := span_mem.2 ⟨hs, Int.le_refl _, Int.le_refl _⟩
  cases h : span l s.f0 s.f0 with
  | nil => rw [h] at hm; simp at hm
  | cons q t =>
    have hq : q ∈ span l s.f0 s.f0 := by rw [h]; simp
    obtain ⟨h1, h2, h3⟩ := span_mem.1 hq
    obtain ⟨i, hi, rfl⟩ := List.getElem_of_mem hs
    obtain ⟨j, hj, rfl⟩ := List.getElem_of_mem h1
    have : i = j := by
      rcases Nat.lt_trichotomy i j with h5 | h5 | h5
      · have := g.up i j hi hj h5; omega
      · exact h5
      · have := g.up j i hj hi h5; omega
    subst this
    exact ⟨t, rfl⟩

/-! ### the reference's merge: of theirs -/
theorem merge_ev (a b : List S37) (ha : a.length ≤ 10000) (hb : b.length ≤ 10000) : ∀ (n i j : Nat) (out : List S37), (a.length - i) + (b.length - j) = n → i ≤ a.length → j ≤ b.length → out.length + n ≤ 40000 → (∀ q ∈ out, q ∈ a ∨ q ∈ b) →
    ∃ r : List S37, r.length ≤ 40000 ∧ (∀ q ∈ r, q ∈ a ∨ q ∈ b) ∧ Ev (fun k => spec_l6Merge.l0 k a b out (i : Int) (j : Int)) r := by
  intro n
  induction n using Nat.strongRecOn with
  | _ n ih =>
    intro i j out hn hi hj ho hm
    have hcap : out.length < 8796093022208 := by omega
    have adv_a : ∀ (h : i < a.length), ∀ d, d ≤ b.length → j ≤ d → ∃ r : List S37, r.length ≤ 40000 ∧ (∀ q ∈ r, q ∈ a ∨ q ∈ b) ∧ Ev (fun k => spec_l6Merge.l0 k a b (out ++ [(⟨(rd_T37 a i).f0, (rd_T37 a i).f1⟩ : S37)]) (wrap64 ((i : Int) + 1)) (d : Int)) r := by
      intro h d hd hjd
      rw [w64_succ h (by omega)]
      refine ih ((a.length - (i + 1)) + (b.length - d)) (by omega) (i + 1) d _ rfl (by omega) hd (by simp; omega) fun q hq => ?_
      rcases List.mem_append.1 hq with hq | hq
      · exact hm q hq
      · rw [List.mem_singleton] at hq
        subst hq
        rw [rd_at a i h]
        exact .inl (List.getElem_mem h)
    have adv_b : ∀ (h : j < b.length), ∃ r : List S37, r.length ≤ 40000 ∧ (∀ q ∈ r, q ∈ a ∨ q ∈ b) ∧ Ev (fun k => spec_l6Merge.l0 k a b (out ++ [(⟨(rd_T37 b j).f0, (rd_T37 b j).f1⟩ : S37)]) (i : Int) (wrap64 ((j : Int) + 1))) r := by
      intro h
      rw [w64_succ h (by omega)]
      refine ih ((a.length - i) + (b.length - (j + 1))) (by omega) i (j + 1) _ rfl hi (by omega) (by simp; omega) fun q hq => ?_
      rcases List.mem_append.1 hq with hq | hq
      · exact hm q hq
      · rw [List.mem_singleton] at hq
        subst hq
        rw [rd_at b j h]
        exact .inr (List.getElem_mem h)
    -- one of a goes ahead
    have j2t : i < a.length → ∃ r : List S37, r.length ≤ 40000 ∧ (∀ q ∈ r, q ∈ a ∨ q ∈ b) ∧ Ev (fun k => spec_l6Merge.j2 k a b out (i : Int) (j : Int) true) r := by
      intro h
      by_cases h1 : j < b.length
      · by_cases h2 : (rd_T37 a i).f0 = (rd_T37 b j).f0
        · obtain ⟨r, r1, r2, r3⟩ := adv_a h (j + 1) (by omega) (by omega)
          refine ⟨r, r1, r2, ev_succ (Ev.congr (fun k => ?_) r3)⟩
          simp only [spec_l6Merge.j2, if_true]
          rw [if_pos (by omega), if_pos (by omega), if_pos (by omega), if_pos (by omega), if_pos h2, if_pos hcap, w64_succ h1 (by omega)]
        · obtain ⟨r, r1, r2, r3⟩ := adv_a h j hj (Nat.le_refl _)
          refine ⟨r, r1, r2, ev_succ (Ev.congr (fun k => ?_) r3)⟩
          simp only [spec_l6Merge.j2, if_true]
          rw [if_pos (by omega), if_pos (by omega), if_pos (by omega), if_pos (by omega), if_neg h2, if_pos hcap]
      · obtain ⟨r, r1, r2, r3⟩ := adv_a h j hj (Nat.le_refl _)
        refine ⟨r, r1, r2, ev_succ (Ev.congr (fun k => ?_) r3)⟩
        simp only [spec_l6Merge.j2, if_true]
        rw [if_neg (by omega), if_pos (by omega), if_pos (by omega), if_pos hcap]
    have j2f : j < b.length → ∃ r : List S37, r.length ≤ 40000 ∧ (∀ q ∈ r, q ∈ a ∨ q ∈ b) ∧ Ev (fun k => spec_l6Merge.j2 k a b out (i : Int) (j : Int) false) r := by
      intro h
      obtain ⟨r, r1, r2, r3⟩ := adv_b h
      refine ⟨r, r1, r2, ev_succ (Ev.congr (fun k => ?_) r3)⟩
      simp only [spec_l6Merge.j2, Bool.false_eq_true, if_false]
      rw [if_pos (by omega), if_pos (by omega), if_pos hcap]
    have j1t : (i < a.length ∨ j < b.length) → ∃ r : List S37, r.length ≤ 40000 ∧ (∀ q ∈ r, q ∈ a ∨ q ∈ b) ∧ Ev (fun k => spec_l6Merge.j1 k a b out (i : Int) (j : Int) true) r := by
      intro h
      by_cases h1 : j = b.length
      · obtain ⟨r, r1, r2, r3⟩ := j2t (by omega)
        refine ⟨r, r1, r2, ev_succ (Ev.congr (fun k => ?_) r3)⟩
        simp only [spec_l6Merge.j1, if_true]
        rw [if_pos (by omega)]
      · by_cases h2 : i < a.length
        · by_cases h3 : (rd_T37 a i).f0 ≤ (rd_T37 b j).f0
          · obtain ⟨r, r1, r2, r3⟩ := j2t h2
            refine ⟨r, r1, r2, ev_succ (Ev.congr (fun k => ?_) r3)⟩
            simp only [spec_l6Merge.j1, if_true]
            rw [if_neg (by omega), if_pos (by omega), if_pos (by omega), if_pos (by omega), if_pos (by omega), decide_eq_true h3]
          · obtain ⟨r, r1, r2, r3⟩ := j2f (by omega)
            refine ⟨r, r1, r2, ev_succ (Ev.congr (fun k => ?_) r3)⟩
            simp only [spec_l6Merge.j1, if_true]
            rw [if_neg (by omega), if_pos (by omega), if_pos (by omega), if_pos (by omega), if_pos (by omega), decide_eq_false h3]
        · obtain ⟨r, r1, r2, r3⟩ := j2f (by omega)
          refine ⟨r, r1, r2, ev_succ (Ev.congr (fun k => ?_) r3)⟩
          simp only [spec_l6Merge.j1, if_true]
          rw [if_neg (by omega), if_neg (by omega)]
    by_cases h1 : i < a.length
    · obtain ⟨r, r1, r2, r3⟩ := j1t (.inl h1)
      refine ⟨r, r1, r2, ev_succ (Ev.congr (fun k => ?_) r3)⟩
      simp only [spec_l6Merge.l0]
      rw [if_pos (by omega)]
    · by_cases h2 : j < b.length
      · obtain ⟨r, r1, r2, r3⟩ := j1t (.inr h2)
        refine ⟨r, r1, r2, ev_succ (Ev.congr (fun k => ?_) r3)⟩
        simp only [spec_l6Merge.l0]
        rw [if_neg (by omega), decide_eq_true (by omega)]
      · refine ⟨out, by omega, hm, ev_succ (ev_succ (ev_now fun k => ?_))⟩
        simp only [spec_l6Merge.l0]
        rw [if_neg (by omega), decide_eq_false (by omega)]
        simp only [spec_l6Merge.j1, Bool.false_eq_true, if_false]
theorem merged_ev (a b : List S37) (ha : a.length ≤ 10000) (hb : b.length ≤ 10000) : ∃ r : List S37, r.length ≤ 40000 ∧ (∀ q ∈ r, q ∈ a ∨ q ∈ b) ∧ Ev (fun k => spec_Merged.f k a b) r := by
  obtain ⟨r, r1, r2, r3⟩ := merge_ev a b ha hb _ 0 0 [] rfl (Nat.zero_le _) (Nat.zero_le _) (by simp; omega) (by simp)
  exact ⟨r, r1, r2, Ev.bind (f := fun _ t => some t) (show Ev (fun k => spec_l6Merge.f k a b) r from r3) (Ev.now _)⟩

/-! ### the law -/
theorem zSamples_self (l : List S37) (hl : l.length ≤ 9223372036854775000) : ∀ i, i ≤ l.length → Ev (fun k => laws_zSamples.l0 k l l (l.length : Int) (i : Int)) true := by
  refine down ?_ ?_
  · refine ev_succ (ev_now fun k => ?_)
    simp only [laws_zSamples.l0, Int.lt_irrefl, if_false]
  · intro i hi h
    refine ev_succ (Ev.congr (fun k => ?_) h)
    simp only [laws_zSamples.l0]
    rw [if_pos (by omega), if_pos (by omega), if_pos (by omega), if_pos (by omega), w64_succ hi (by omega)]
    simp
theorem zSamples_ev (l : List S37) (hl : l.length ≤ 9223372036854775000) : Ev (fun k => laws_zSamples.f k l l) true := by
  unfold laws_zSamples.f
  simp only [if_true]
  exact zSamples_self l hl 0 (Nat.zero_le _)
theorem walk_mem {gap : Int} {a b : List S37} : ∀ {t : List S37} {z : S37}, Walk gap a b z t → ∀ q ∈ t, (q ∈ a ∨ q ∈ b) ∧ z.f0 < q.f0
  | [], _, _, q, hq => by simp at hq
  | s :: t, z, ⟨⟨h1, h2, _⟩, h4⟩, q, hq => by
    rcases List.mem_cons.1 hq with rfl | hq
    · exact ⟨h1, h2⟩
    · have := walk_mem h4 q hq
      exact ⟨this.1, by omega⟩
theorem walk_pw {gap : Int} {a b : List S37} : ∀ {t : List S37} {z : S37}, Walk gap a b z t → (z :: t).Pairwise fun x y => x.f0 < y.f0
  | [], z, _ => by simp
  | s :: t, z, h => List.pairwise_cons.2 ⟨fun q hq => (walk_mem h q hq).2, walk_pw h.2⟩
theorem goodB_of {l : List S37} (h1 : l.length ≤ 2000) (h2 : l.Pairwise fun x y => x.f0 < y.f0) (h3 : ∀ q ∈ l, 0 ≤ q.f0 ∧ q.f0 ≤ 1000000000000) : goodB l = true := by
  unfold goodB
  rw [Bool.and_eq_true, allFrom_iff]
  refine ⟨by simpa using h1, fun j _ hj => ?_⟩
  unfold okAt
  rw [Bool.and_eq_true]
  rw [rd_at l j hj]
  refine ⟨by simpa [timeB] using h3 _ (List.getElem_mem hj), ?_⟩
  by_cases h0 : j = 0
  · simp [h0]
  · rw [show ((j : Nat) : Int) - 1 = ((j - 1 : Nat) : Int) by omega, rd_at l (j - 1) (by omega)]
    have := List.pairwise_iff_getElem.1 h2 (j - 1) j (by omega) hj (by omega)
    simp [this]
theorem law_loop (gap : Int) (g0 : 0 ≤ gap) (g1 : gap ≤ 1000000) (a b d : List S37) (ga : goodB a = true) (gb : goodB b = true) (hd : d.length ≤ 2000) (hmem : ∀ q ∈ d, q ∈ a ∨ q ∈ b) :
    ∀ (rest pre : List S37), pre ++ rest = d → (∀ p z, pre = p ++ [z] → 0 ≤ z.f0 ∧ z.f0 ≤ 1000000000000 ∧ Walk gap a b z rest) → (pre = [] → ∀ z t, rest = z :: t → Walk gap a b z t) →
    Ev (fun k => laws_FnDedup.l0 k a b gap d d (d.length : Int) (pre.length : Int)) true := by
  intro rest
  have hga := good_of ga
  have hgb := good_of gb
  have hla := hga.len
  have hlb := hgb.len
  induction rest with
  | nil =>
    intro pre hp _ _
    have : pre.length = d.length := by rw [← hp]; simp
    refine ev_succ (ev_now fun k => ?_)
    simp only [laws_FnDedup.l0]
    rw [if_neg (by omega)]
  | cons s rest ih =>
    intro pre hp hw hw0
    have hs : s ∈ a ∨ s ∈ b := hmem s (by rw [← hp]; simp)
    have hlen : pre.length + (rest.length + 1) = d.length := by rw [← hp]; simp
    have hsr : 0 ≤ s.f0 ∧ s.f0 ≤ 1000000000000 := by
      rcases hs with h | h
      · obtain ⟨i, hi, rfl⟩ := List.getElem_of_mem h; exact hga.lo i hi
      · obtain ⟨i, hi, rfl⟩ := List.getElem_of_mem h; exact hgb.lo i hi
    have hwr : Walk gap a b s rest := by
      rcases List.eq_nil_or_concat pre with h | ⟨p, z, h⟩
      · exact hw0 h s rest rfl
      · rw [List.concat_eq_append] at h
        exact (hw p z h).2.2.2
    have next := ih (pre ++ [s]) (by rw [← hp]; simp) (fun p z h => by
      have := congrArg List.getLast? h
      simp at this
      subst this
      exact ⟨hsr.1, hsr.2, hwr⟩) (fun h => by simp at h)
    have erd : rd_T37 d (pre.length : Int) = s := by rw [← hp]; unfold rd_T37; rw [Int.toNat_natCast]; exact getD_mid _ _ _ _
    have e5 : wrap64 ((pre.length : Int) + 1) = ((pre ++ [s]).length : Int) := by rw [len_succ]; exact w64 (by omega) (by omega)
    have j4 : Ev (fun k => laws_FnDedup.j4 k a b gap d d (d.length : Int) (pre.length : Int) false) true := by
      refine ev_succ (Ev.congr (fun k => ?_) next)
      simp only [laws_FnDedup.j4, Bool.false_eq_true, if_false, e5]
    have j3 : Ev (fun k => laws_FnDedup.j3 k a b gap d (pre.length : Int) d (d.length : Int) (pre.length : Int) false s.f0 s.f1) true := by
      refine ev_succ ?_
      simp only [laws_FnDedup.j3, Bool.false_eq_true, if_false]
      rcases List.eq_nil_or_concat pre with h | ⟨p, z, h⟩
      · subst h
        simp only [List.length_nil, Int.natCast_zero, if_neg (show ¬ ((0 : Int) > 0) by omega)]
        exact j4
      · rw [List.concat_eq_append] at h
        obtain ⟨z0, z1, ⟨_, hzs, hgap⟩, _⟩ := hw p z h
        have hpl : pre.length = p.length + 1 := by rw [h]; simp
        have e6 : wrap64 ((pre.length : Int) - 1) = (p.length : Int) := by rw [w64 (by omega) (by omega)]; omega
        have ez : rd_T37 d (p.length : Int) = z := by
          rw [← hp, h]
          unfold rd_T37
          rw [Int.toNat_natCast, List.append_assoc]
          exact getD_mid _ _ _ _
        simp only [if_pos (show (pre.length : Int) > 0 by omega), e6, if_pos (show (0 : Int) ≤ p.length by omega), if_pos (show (p.length : Int) < d.length by omega), ez]
        have e7 : wrap64 (z.f0 + gap) = z.f0 + gap := w64 (by omega) (by omega)
        rw [e7]
        by_cases hb : s.f0 > z.f0 + gap
        · simp only [if_pos hb]
          obtain ⟨M, m1, m2, m3⟩ := merged_ev a b (by omega) (by omega)
          refine Ev.bind m3 ?_
          have e8 : wrap64 (z.f0 + 1) = z.f0 + 1 := w64 (by omega) (by omega)
          have e9 : wrap64 (s.f0 - 1) = s.f0 - 1 := w64 (by omega) (by omega)
          rw [e8, e9]
          refine Ev.bind (specCut_ev M (z.f0 + 1) (s.f0 - 1) (by omega)) ?_
          have e10 : (if goodB M = true then span M (z.f0 + 1) (s.f0 - 1) else []) = [] := by
            by_cases gM : goodB M = true
            · rw [if_pos gM, List.eq_nil_iff_forall_not_mem]
              intro q hq
              obtain ⟨q1, q2, q3⟩ := span_mem.1 hq
              exact hgap (by omega) q (m2 q q1) (by omega)
            · rw [if_neg gM]
          rw [e10]
          exact j4
        · simp only [if_neg hb]
          exact j4
    refine ev_succ ?_
    simp only [laws_FnDedup.l0]
    simp only [if_pos (show (pre.length : Int) < d.length by omega), if_pos (show (0 : Int) ≤ pre.length by omega), erd]
    refine Ev.bind (implCut_ev a s.f0 s.f0 ga) (Ev.bind (implCut_ev b s.f0 s.f0 gb) ?_)
    -- theirs
    have inB : s ∈ b → Ev (fun k => if ((span b s.f0 s.f0).length : Int) = 0 then (laws_FnDedup.j3 k a b gap d (pre.length : Int) d (d.length : Int) (pre.length : Int) true s.f0 s.f1) else (if 0 < ((span b s.f0 s.f0).length : Int) then (laws_FnDedup.j3 k a b gap d (pre.length : Int) d (d.length : Int) (pre.length : Int) (!(((rd_T37 (span b s.f0 s.f0) 0).f0) == s.f0) || (!(((rd_T37 (span b s.f0 s.f0) 0).f1) == s.f1))) s.f0 s.f1) else (none))) true := by
      intro h
      obtain ⟨t, ht⟩ := span_one hgb h
      have h0 : ¬ (((s :: t).length : Int) = 0) := by simp only [List.length_cons]; omega
      have h1 : (0 : Int) < ((s :: t).length : Int) := by simp only [List.length_cons]; omega
      rw [ht]
      simp only [if_neg h0, if_pos h1, show rd_T37 (s :: t) 0 = s from rfl, beq_self_eq_true, Bool.not_true, Bool.or_self]
      exact j3
    cases hx : span a s.f0 s.f0 with
    | nil =>
      have hsb : s ∈ b := by
        rcases hs with h | h
        · obtain ⟨t, ht⟩ := span_one hga h; rw [ht] at hx; cases hx
        · exact h
      simp only [List.length_nil, Int.natCast_zero, if_true]
      exact inB hsb
    | cons x t =>
      have h0 : ¬ (((x :: t).length : Int) = 0) := by simp only [List.length_cons]; omega
      have h1 : (0 : Int) < ((x :: t).length : Int) := by simp only [List.length_cons]; omega
      simp only [if_neg h0, if_pos h1, show rd_T37 (x :: t) 0 = x from rfl]
      by_cases hxs : (!(x.f0 == s.f0) || !(x.f1 == s.f1)) = true
      · simp only [if_pos hxs]
        have hsb : s ∈ b := by
          rcases hs with h | h
          · obtain ⟨t', ht'⟩ := span_one hga h
            rw [ht'] at hx
            injection hx with hx1 hx2
            subst hx1
            simp at hxs
          · exact h
        exact inB hsb
      · simp only [if_neg hxs]
        exact j3
theorem FnDedup : laws_FnDedup.Pure := by
  intro l0 _ _ w0
  refine Ev.rounds ?_
  have h0 := byt_of w0
  unfold laws_FnDedup.f
  by_cases c : (l0.length : Int) > 1048576
  · simp only [if_pos c]
    exact Ev.now _
  simp only [if_neg c]
  obtain ⟨⟨a, b, gap⟩, ⟨ha, hb⟩, hdr⟩ := draw_ev h0
  simp only at ha hb
  refine Ev.bind hdr ?_
  simp only []
  have iga := implGood_ev a (by omega)
  have igb := implGood_ev b (by omega)
  have sga := specGood_ev a (by omega)
  have sgb := specGood_ev b (by omega)
  have gapf : impl_goodGap.f gap = some (decide (0 ≤ gap ∧ gap ≤ 1000000)) := by
    unfold impl_goodGap.f
    by_cases h : gap ≥ 0
    · rw [if_pos h]; congr 1; rw [decide_eq_decide]; omega
    · rw [if_neg h]; congr 1; symm; rw [decide_eq_false_iff_not]; omega
  have j0t : ∀ a b : List S37, Ev (fun k => impl_DedupSamples.j0 k a b gap true) [] := fun a b => ev_succ (ev_now fun k => by simp [impl_DedupSamples.j0])
  have badlaw : Ev (fun k => laws_FnDedup.j0 k a b gap [] true) true := ev_succ (ev_now fun k => by simp [laws_FnDedup.j0])
  -- DedupSamples of two
  have full : ∀ (a b : List S37), a.length ≤ 200 → b.length ≤ 200 → goodB a = true → goodB b = true → (0 ≤ gap ∧ gap ≤ 1000000) → ∀ r : List S37, r.length ≤ 2000 → Ev (fun k => impl_dedup.f k a b gap) r → Ev (fun k => impl_DedupSamples.f k a b gap) r := by
    intro a b ha hb ga gb hg r hr h
    unfold impl_DedupSamples.f
    refine Ev.bind (implGood_ev a (by omega)) ?_
    simp only [if_pos ga]
    refine Ev.bind (implGood_ev b (by omega)) ?_
    simp only [if_pos gb, gapf, Option.bind_some]
    rw [decide_eq_true hg]
    refine ev_succ ?_
    simp only [impl_DedupSamples.j0, Bool.not_true, Bool.false_eq_true, if_false]
    refine Ev.bind h ?_
    simp only [if_neg (show ¬ ((r.length : Int) > 2000) by omega)]
    exact Ev.now _
  by_cases ga : goodB a = true
  · by_cases gb : goodB b = true
    · by_cases hg : 0 ≤ gap ∧ gap ≤ 1000000
      · have hga := good_of ga
        have hgb := good_of gb
        obtain ⟨r, r1, r2, r3, r4⟩ := dedup_ev gap hg.1 hg.2 a b hga hgb
        obtain ⟨r', q1, q2, q3, q4⟩ := dedup_ev gap hg.1 hg.2 a a hga hga
        have hr'a := q3 rfl
        rw [hr'a] at q2
        refine Ev.bind (full a b ha hb ga gb hg r (by omega) r2) (Ev.bind sga ?_)
        simp only [if_pos ga]
        refine Ev.bind sgb ?_
        simp only [if_pos gb, if_neg (show ¬ gap < 0 by omega)]
        rw [decide_eq_false (show ¬ gap > 1000000 by omega)]
        refine ev_succ ?_
        simp only [laws_FnDedup.j0, Bool.false_eq_true, if_false]
        refine Ev.bind (full a a ha ha ga ga hg a (by omega) q2) (Ev.bind (zSamples_ev a (by omega)) ?_)
        simp only [if_true]
        have hmem : ∀ q ∈ r, q ∈ a ∨ q ∈ b := by
          rcases r4 with ⟨h1, _, _⟩ | ⟨x, t, h1, h2, h3⟩
          · rw [h1]; simp
          · rw [h1]
            intro q hq
            rcases List.mem_cons.1 hq with rfl | hq
            · exact h2
            · exact (walk_mem h3 q hq).1
        have hpw : r.Pairwise fun x y => x.f0 < y.f0 := by
          rcases r4 with ⟨h1, _, _⟩ | ⟨x, t, h1, h2, h3⟩
          · rw [h1]; simp
          · rw [h1]; exact walk_pw h3
        have hrange : ∀ q ∈ r, 0 ≤ q.f0 ∧ q.f0 ≤ 1000000000000 := by
          intro q hq
          rcases hmem q hq with h | h
          · obtain ⟨i, hi, rfl⟩ := List.getElem_of_mem h; exact hga.lo i hi
          · obtain ⟨i, hi, rfl⟩ := List.getElem_of_mem h; exact hgb.lo i hi
        have gr : goodB r = true := goodB_of (by omega) hpw hrange
        refine Ev.bind (specGood_ev r (by omega)) ?_
        simp only [if_pos gr]
        have hz : ((((r.length : Int) == 0) != ((wrap64 ((a.length : Int) + (b.length : Int))) == 0)) : Bool) = false := by
          rw [w64 (x := (a.length : Int) + b.length) (by omega) (by omega)]
          rcases r4 with ⟨h1, h2, h3⟩ | ⟨x, t, h1, h2, h3⟩
          · rw [h1, h2, h3]; rfl
          · have : 0 < a.length + b.length := by
              rcases h2 with h | h
              · have := List.length_pos_of_mem h; omega
              · have := List.length_pos_of_mem h; omega
            rw [h1]
            have e1 : (((x :: t).length : Int) == 0) = false := by simp only [List.length_cons]; simp; omega
            have e2 : (((a.length : Int) + b.length) == 0) = false := by simp; omega
            rw [e1, e2]; rfl
        rw [hz]
        refine ev_succ ?_
        simp only [laws_FnDedup.j1, Bool.false_eq_true, if_false]
        refine law_loop gap hg.1 hg.2 a b r ga gb (by omega) hmem r [] rfl (fun p z h => by simp at h) (fun _ z t h => ?_)
        rcases r4 with ⟨h1, _, _⟩ | ⟨x, t', h1, h2, h3⟩
        · rw [h1] at h; cases h
        · rw [h1] at h
          injection h with h5 h6
          subst h5; subst h6
          exact h3
      · have hd : Ev (fun k => impl_DedupSamples.f k a b gap) [] := by
          unfold impl_DedupSamples.f
          refine Ev.bind iga ?_
          simp only [if_pos ga]
          refine Ev.bind igb ?_
          simp only [if_pos gb, gapf, Option.bind_some]
          rw [decide_eq_false hg]
          exact j0t a b
        refine Ev.bind hd (Ev.bind sga ?_)
        simp only [if_pos ga]
        refine Ev.bind sgb ?_
        simp only [if_pos gb]
        by_cases h1 : gap < 0
        · simp only [if_pos h1]
          exact badlaw
        · simp only [if_neg h1]
          rw [decide_eq_true (show gap > 1000000 by omega)]
          exact badlaw
    · have hd : Ev (fun k => impl_DedupSamples.f k a b gap) [] := by
        unfold impl_DedupSamples.f
        refine Ev.bind iga ?_
        simp only [if_pos ga]
        refine Ev.bind igb ?_
        simp only [if_neg gb]
        exact j0t a b
      refine Ev.bind hd (Ev.bind sga ?_)
      simp only [if_pos ga]
      refine Ev.bind sgb ?_
      simp only [if_neg gb]
      exact badlaw
  · have hd : Ev (fun k => impl_DedupSamples.f k a b gap) [] := by
      unfold impl_DedupSamples.f
      refine Ev.bind iga ?_
      simp only [if_neg ga]
      exact j0t a b
    refine Ev.bind hd (Ev.bind sga ?_)
    simp only [if_neg ga]
    exact badlaw

end Go.Proofs.Ytogjmchhafiafac.Pure
