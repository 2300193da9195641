/- Of drawn good samples: merged with themselves they are themselves, the first ones count, and in any order of three it is the same. No condition. -/
import Derived.Test.YtppifefhpjhmaaaPFnMergedx7
import Derived.Test.YtppifefhpjhmaaaKit
import Derived.Laws.BitsLemmas
namespace Go.Proofs.Ytppifefhpjhmaaa.Pure
open Go.RowKit Go.Proofs.Ytppifefhpjhmaaa.PFnMerged Go.Proofs.YtppifefhpjhmaaaW.PrintWords Go.Proofs.YtppifefhpjhmaaaW.PrintLast Go.Proofs.YtppifefhpjhmaaaW.PrintMore Go.Proofs.Ytppifefhpjhmaaa.Kit
set_option linter.unusedVariables false
set_option linter.unusedSimpArgs false

/-! ### the drawing cursor: it always answers, and it moves a little -/
/-- What is drawn from: bytes. -/
def Byt (l : List Int) : Prop := ∀ x ∈ l, 0 ≤ x ∧ x ≤ 255
theorem byt_of {l : List Int} (h : ∀ x ∈ l, (Lit.int .u8 x).wf = true) : Byt l := by
  intro x hx
  have h1 : IntKind.u8.min = 0 := rfl
  have h2 : IntKind.u8.max = 255 := rfl
  have h3 := h x hx
  simp only [Lit.wf, Bool.and_eq_true, decide_eq_true_eq, h1, h2] at h3
  exact h3
theorem byt_rd {l : List Int} (h : Byt l) (i : Int) : 0 ≤ rd l i ∧ rd l i ≤ 255 := by
  unfold rd
  rw [List.getD_eq_getElem?_getD]
  by_cases hi : i.toNat < l.length
  · rw [List.getElem?_eq_getElem hi]
    exact h _ (List.getElem_mem hi)
  · rw [List.getElem?_eq_none (by omega)]
    simp
/-- A drawing function's run at (s1, s2): it answers something that p holds of, and the cursor has moved by at most n. -/
def Dr {α : Type} (p : α → Prop) (n : Int) (s1 : Int) (g : Nat → Option (α × Int × Int)) : Prop := ∃ a t1 t2, p a ∧ 0 ≤ t1 ∧ t1 ≤ s1 + n ∧ Ev g (a, t1, t2)
def lim : Int := 4611686018427387904
theorem seed_and (x : Int) : 0 ≤ wrap64 (Go.bits .and .u64 (IntKind.u64.wrap x / 1099511627776) 255) ∧ wrap64 (Go.bits .and .u64 (IntKind.u64.wrap x / 1099511627776) 255) ≤ 255 := by
  have hx : IntKind.u64.wrap x = x % 18446744073709551616 := by simp [IntKind.wrap, IntKind.bits, IntKind.signed]
  have h := bits_mask .u64 24 (by decide) (fun n h0 h1 => wu64 h0 (by omega)) 8 (by decide) (IntKind.u64.wrap x / 1099511627776) (by rw [hx]; omega) (by rw [hx]; omega)
  have e : (2 ^ 8 - 1 : Int) = 255 := by decide
  rw [e] at h
  rw [h, show (2 ^ 8 : Int) = 256 by decide, w64 (by omega) (by omega)]
  omega
theorem next_dr {l : List Int} (hl : Byt l) (s1 s2 : Int) (h0 : 0 ≤ s1) (h1 : s1 ≤ lim) : Dr (fun b => 0 ≤ b ∧ b ≤ 255) 1 s1 fun k => spec_l1Cur_next.f k l s1 s2 := by
  have hlim : lim = 4611686018427387904 := rfl
  have key : ∀ b, 0 ≤ b ∧ b ≤ 255 → Dr (fun b => 0 ≤ b ∧ b ≤ 255) 1 s1 fun k => spec_l1Cur_next.j0 k b l s1 s2 := by
    intro b hb
    have e : wrap64 (s1 + 1) = s1 + 1 := w64 (by omega) (by omega)
    by_cases c : s1 + 1 ≤ (l.length : Int)
    · refine ⟨_, _, _, hb, ?_, ?_, ev_succ (ev_now fun k => by simp only [spec_l1Cur_next.j0, e]; rw [if_pos c])⟩ <;> omega
    · refine ⟨_, _, _, seed_and _, ?_, ?_, ev_succ (ev_now fun k => by simp only [spec_l1Cur_next.j0, e]; rw [if_neg c])⟩ <;> omega
  unfold spec_l1Cur_next.f
  by_cases c : s1 < (l.length : Int)
  · simp only [if_pos c, if_pos h0]
    have hb := byt_rd hl s1
    have e : wrap64 (rd l s1) = rd l s1 := w64 (by omega) (by omega)
    rw [e]
    exact key _ hb
  · simp only [if_neg c]
    exact key 0 (by omega)
/-- Draw, then go on. -/
theorem Dr.then {α β : Type} {p : α → Prop} {n s1 : Int} {g : Nat → Option (α × Int × Int)} (h : Dr p n s1 g) {Q : β → Prop} {f : Nat → α × Int × Int → Option β}
    (k : ∀ a t1 t2, p a → 0 ≤ t1 → t1 ≤ s1 + n → ∃ r, Q r ∧ Ev (fun k => f k (a, t1, t2)) r) : ∃ r, Q r ∧ Ev (fun k => (g k).bind (f k)) r := by
  obtain ⟨a, t1, t2, hp, h0, h1, he⟩ := h
  obtain ⟨r, hr, hk⟩ := k a t1 t2 hp h0 h1
  exact ⟨r, hr, Ev.bind he hk⟩
/-- Draw, then go on drawing. -/
theorem Dr.bind {α β : Type} {p : α → Prop} {n s1 : Int} {g : Nat → Option (α × Int × Int)} (h : Dr p n s1 g) {q : β → Prop} {m : Int} {f : Nat → α × Int × Int → Option (β × Int × Int)}
    (k : ∀ a t1 t2, p a → 0 ≤ t1 → t1 ≤ s1 + n → Dr q m t1 (fun k => f k (a, t1, t2))) : Dr q (n + m) s1 (fun k => (g k).bind (f k)) := by
  obtain ⟨a, t1, t2, hp, h0, h1, he⟩ := h
  obtain ⟨b, u1, u2, hq, h2, h3, hk⟩ := k a t1 t2 hp h0 h1
  exact ⟨b, u1, u2, hq, h2, by omega, Ev.bind he hk⟩
theorem Dr.mono {α : Type} {p q : α → Prop} {n m s1 : Int} {g : Nat → Option (α × Int × Int)} (h : Dr p n s1 g) (hp : ∀ a, p a → q a) (hn : n ≤ m) : Dr q m s1 g := by
  obtain ⟨a, t1, t2, h0, h1, h2, h3⟩ := h
  exact ⟨a, t1, t2, hp a h0, h1, by omega, h3⟩
theorem Dr.now {α : Type} {p : α → Prop} {n s1 t1 t2 : Int} {a : α} (hp : p a) (h0 : 0 ≤ t1) (h1 : t1 ≤ s1 + n) : Dr p n s1 (fun _ => some (a, t1, t2)) := ⟨a, t1, t2, hp, h0, h1, Ev.now _⟩
theorem Dr.succ {α : Type} {p : α → Prop} {n s1 : Int} {g : Nat → Option (α × Int × Int)} (h : Dr p n s1 fun k => g (k + 1)) : Dr p n s1 g := by
  obtain ⟨a, t1, t2, h0, h1, h2, h3⟩ := h
  exact ⟨a, t1, t2, h0, h1, h2, ev_succ h3⟩
theorem Dr.ite {α : Type} {p : α → Prop} {n s1 : Int} {c : Prop} [Decidable c] {g h : Nat → Option (α × Int × Int)} (hg : c → Dr p n s1 g) (hh : ¬ c → Dr p n s1 h) : Dr p n s1 (fun k => if c then g k else h k) := by
  by_cases hc : c
  · simp only [if_pos hc]; exact hg hc
  · simp only [if_neg hc]; exact hh hc
theorem pick_dr {l : List Int} (hl : Byt l) (s1 s2 n : Int) (h0 : 0 ≤ s1) (h1 : s1 + 1 ≤ lim) : Dr (fun a => 0 ≤ a ∧ (1 ≤ n → a < n) ∧ a ≤ 65535) 2 s1 fun k => spec_l1Cur_pick.f k l s1 s2 n := by
  unfold spec_l1Cur_pick.f
  refine Dr.ite (fun c => Dr.now ⟨by omega, by omega, by omega⟩ h0 (by first | omega | (dsimp only; omega))) fun c => ?_
  have hm : ∀ x : Int, 0 ≤ x → x ≤ 65535 → 0 ≤ Int.tmod x n ∧ (1 ≤ n → Int.tmod x n < n) ∧ Int.tmod x n ≤ 65535 := by
    intro x hx hx2
    rw [Int.tmod_eq_emod_of_nonneg hx]
    have a := Int.emod_nonneg x (show n ≠ 0 by omega)
    have b := Int.emod_lt_of_pos x (show 0 < n by omega)
    refine ⟨a, fun _ => b, ?_⟩
    by_cases hxn : x < n
    · rw [Int.emod_eq_of_lt hx hxn]; exact hx2
    · omega
  refine Dr.bind (n := 1) (m := 1) (next_dr hl s1 s2 h0 (by omega)) fun a t1 t2 ha h2 h3 => ?_
  refine Dr.ite (fun c2 => ?_) fun c2 => ?_
  · refine Dr.mono (n := 1 + 0) ?_ (fun _ h => h) (by omega)
    refine Dr.bind (next_dr hl t1 t2 h2 (by omega)) fun b u1 u2 hb h4 h5 => ?_
    refine Dr.ite (fun c3 => absurd c3 (by omega)) fun _ => ?_
    have e : wrap64 (wrap64 (a * 256) + b) = a * 256 + b := by rw [w64 (x := a * 256) (by omega) (by omega), w64 (by omega) (by omega)]
    simp only [e]
    exact Dr.now (hm _ (by omega) (by omega)) h4 (by first | omega | (dsimp only; omega))
  · refine Dr.ite (fun c3 => absurd c3 (by omega)) fun _ => ?_
    exact Dr.now (hm _ (by omega) (by omega)) h2 (by first | omega | (dsimp only; omega))
theorem one_dr {l : List Int} (hl : Byt l) (s1 s2 n : Int) (h0 : 0 ≤ s1) (h1 : s1 + 1 ≤ lim) : Dr (fun _ => True) 2 s1 fun k => spec_l1Cur_one.f k l s1 s2 n := by
  unfold spec_l1Cur_one.f
  exact Dr.mono (Dr.bind (n := 2) (m := 0) (pick_dr hl s1 s2 n h0 h1) fun a t1 t2 ha h2 h3 => Dr.now trivial h2 (by first | omega | (dsimp only; omega))) (fun _ h => h) (by omega)
--#wide
theorem wide_loop {l : List Int} (hl : Byt l) : ∀ (n : Nat) (x i s1 s2 : Int), i + n = 8 → 0 ≤ i → 0 ≤ s1 → s1 + n ≤ lim → Dr (fun _ => True) n s1 fun k => spec_l1Cur_wide.l0 k x i l s1 s2 := by
  intro n
  induction n with
  | zero =>
    intro x i s1 s2 hi hi0 h0 h1
    refine Dr.succ ?_
    simp only [spec_l1Cur_wide.l0]
    exact Dr.ite (fun c => absurd c (by omega)) fun _ => Dr.now trivial h0 (by first | omega | (dsimp only; omega))
  | succ n ih =>
    intro x i s1 s2 hi hi0 h0 h1
    refine Dr.succ ?_
    simp only [spec_l1Cur_wide.l0]
    refine Dr.ite (fun c => ?_) fun c => absurd c (by omega)
    refine Dr.mono (Dr.bind (n := 1) (m := n) (next_dr hl s1 s2 h0 (by omega)) fun a t1 t2 ha h2 h3 => ?_) (fun _ h => h) (by omega)
    have e : wrap64 (i + 1) = i + 1 := w64 (by omega) (by omega)
    simp only [e]
    exact ih _ _ _ _ (by omega) (by omega) h2 (by omega)
theorem wide_dr {l : List Int} (hl : Byt l) (s1 s2 : Int) (h0 : 0 ≤ s1) (h1 : s1 + 8 ≤ lim) : Dr (fun _ => True) 8 s1 fun k => spec_l1Cur_wide.f k l s1 s2 := wide_loop hl 8 0 0 s1 s2 (by omega) (by omega) h0 (by omega)
--#sized
theorem sized_dr {l : List Int} (hl : Byt l) (s1 s2 : Int) (h0 : 0 ≤ s1) (h1 : s1 + 16 ≤ lim) : Dr (fun _ => True) 16 s1 fun k => spec_l1Cur_sized.f k l s1 s2 := by
  have hj : ∀ x t1 t2, 0 ≤ t1 → t1 ≤ s1 + 14 → Dr (fun _ => True) 2 t1 fun k => spec_l1Cur_sized.j0 k x l t1 t2 := by
    intro x t1 t2 h2 h3
    refine Dr.succ ?_
    simp only [spec_l1Cur_sized.j0]
    refine Dr.mono (Dr.bind (n := 2) (m := 0) (one_dr hl t1 t2 3 h2 (by omega)) fun a u1 u2 ha h4 h5 => ?_) (fun _ h => h) (by omega)
    exact Dr.ite (fun _ => Dr.now trivial h4 (by first | omega | (dsimp only; omega))) fun _ => Dr.now trivial h4 (by first | omega | (dsimp only; omega))
  have hw : ∀ a : Int, 0 ≤ a ∧ (1 ≤ (64 : Int) → a < 64) ∧ a ≤ 65535 → 0 ≤ IntKind.u64.wrap a := by
    intro a ha
    rw [wu64 (by omega) (by omega)]
    exact ha.1
  unfold spec_l1Cur_sized.f
  refine Dr.mono (n := 2 + (2 + 12)) ?_ (fun _ h => h) (by omega)
  refine Dr.bind (pick_dr hl s1 s2 5 h0 (by omega)) fun n a1 a2 _ ha hb => ?_
  refine Dr.bind (pick_dr hl a1 a2 8 ha (by omega)) fun c b1 b2 _ hc hd => ?_
  refine Dr.ite (fun _ => ?_) fun _ => Dr.ite (fun _ => ?_) fun _ => Dr.ite (fun _ => ?_) fun _ => Dr.ite (fun _ => ?_) fun _ => ?_
  · exact Dr.mono (Dr.bind (pick_dr hl b1 b2 300 hc (by omega)) fun x u1 u2 _ he hf => hj _ _ _ he (by omega)) (fun _ h => h) (by omega)
  · refine Dr.mono (Dr.bind (wide_dr hl b1 b2 hc (by omega)) fun x u1 u2 _ he hf => Dr.bind (pick_dr hl u1 u2 64 he (by omega)) fun y v1 v2 hy hg hh => ?_) (fun _ h => h) (show 8 + (2 + 2) ≤ (12 : Int) by omega)
    exact Dr.ite (fun _ => hj _ _ _ hg (by omega)) fun c => absurd (hw y hy) c
  · refine Dr.mono (Dr.bind (pick_dr hl b1 b2 64 hc (by omega)) fun y v1 v2 hy hg hh => ?_) (fun _ h => h) (show 2 + 2 ≤ (12 : Int) by omega)
    exact Dr.ite (fun _ => hj _ _ _ hg (by omega)) fun c => absurd (hw y hy) c
  · refine Dr.mono (Dr.bind (pick_dr hl b1 b2 64 hc (by omega)) fun y v1 v2 hy hg hh => ?_) (fun _ h => h) (show 2 + 2 ≤ (12 : Int) by omega)
    exact Dr.ite (fun _ => hj _ _ _ hg (by omega)) fun c => absurd (hw y hy) c
  · exact Dr.mono (hj _ _ _ hc (by omega)) (fun _ h => h) (by omega)
theorem valueBy_dr {l : List Int} (hl : Byt l) (s1 s2 v : Int) (h0 : 0 ≤ s1) (h1 : s1 + 18 ≤ lim) : Dr (fun _ => True) 18 s1 fun k => spec_l1Cur_valueBy.f k l s1 s2 v := by
  have hj : ∀ b t1 t2, 0 ≤ t1 → t1 ≤ s1 + 2 → Dr (fun _ => True) 16 t1 fun k => spec_l1Cur_valueBy.j0 k v b l t1 t2 := by
    intro b t1 t2 h2 h3
    refine Dr.succ ?_
    simp only [spec_l1Cur_valueBy.j0]
    refine Dr.ite (fun _ => Dr.now trivial h2 (by first | omega | (dsimp only; omega))) fun _ => ?_
    exact Dr.mono (Dr.bind (n := 2) (m := 0) (pick_dr hl t1 t2 9 h2 (by omega)) fun a u1 u2 _ h4 h5 => Dr.now trivial h4 (by first | omega | (dsimp only; omega))) (fun _ h => h) (by omega)
  unfold spec_l1Cur_valueBy.f
  refine Dr.mono (n := 2 + 16) ?_ (fun _ h => h) (by omega)
  refine Dr.bind (pick_dr hl s1 s2 10 h0 (by omega)) fun c b1 b2 _ hc hd => ?_
  refine Dr.ite (fun _ => ?_) fun _ => Dr.ite (fun _ => ?_) fun _ => Dr.ite (fun _ => ?_) fun _ => ?_
  · exact Dr.mono (Dr.bind (m := 0) (sized_dr hl b1 b2 hc (by omega)) fun a u1 u2 _ h4 h5 => Dr.now trivial h4 (by first | omega | (dsimp only; omega))) (fun _ h => h) (by omega)
  · exact Dr.now trivial hc (by first | omega | (dsimp only; omega))
  · exact hj _ _ _ hc (by omega)
  · exact hj _ _ _ hc (by omega)
theorem samples_loop {l : List Int} (hl : Byt l) : ∀ (n : Nat) (out : List S53) (t v st i s1 s2 : Int), i = n → out.length + n ≤ 1000000 → 0 ≤ s1 → s1 + 22 * n ≤ lim → Dr (fun r => r.length = out.length + n) (22 * n) s1 fun k => spec_l1Cur_samples.l0 k out t v st i l s1 s2 := by
  intro n
  induction n with
  | zero =>
    intro out t v st i s1 s2 hi hc h0 h1
    refine Dr.succ ?_
    simp only [spec_l1Cur_samples.l0]
    exact Dr.ite (fun c => absurd c (by omega)) fun _ => Dr.now rfl h0 (by first | omega | (dsimp only; omega))
  | succ n ih =>
    intro out t v st i s1 s2 hi hc h0 h1
    have e : wrap64 (i - 1) = n := by rw [w64 (by omega) (by omega)]; omega
    refine Dr.succ ?_
    simp only [spec_l1Cur_samples.l0]
    refine Dr.ite (fun c => ?_) fun c => absurd c (by omega)
    refine Dr.mono (n := 18 + (4 + 22 * n)) ?_ (fun _ h => h) (by omega)
    refine Dr.bind (valueBy_dr hl s1 s2 v h0 (by omega)) fun x a1 a2 _ g0 g1 => ?_
    refine Dr.ite (fun _ => ?_) fun c => absurd (show out.length < 8796093022208 by omega) c
    simp only [Option.bind_some]
    have go : ∀ st' u1 u2, 0 ≤ u1 → u1 ≤ a1 + 4 → Dr (fun r => r.length = out.length + (n + 1)) (22 * n) u1 fun k => spec_l1Cur_samples.l0 k (out ++ [(⟨t, x⟩ : S53)]) (wrap64 (t + st')) x st' (wrap64 (i - 1)) l u1 u2 := by
      intro st' u1 u2 k0 k1
      exact Dr.mono (ih (out ++ [(⟨t, x⟩ : S53)]) (wrap64 (t + st')) x st' (wrap64 (i - 1)) u1 u2 e (by simp; omega) k0 (by omega)) (fun r h => by rw [h]; simp; omega) (by omega)
    have go2 : ∀ m u1 u2, 0 ≤ u1 → u1 ≤ a1 + 2 → Dr (fun r => r.length = out.length + (n + 1)) (2 + 22 * n) u1 fun k => (spec_l1Cur_pick.f k l u1 u2 m).bind fun bt => spec_l1Cur_samples.l0 k (out ++ [(⟨t, x⟩ : S53)]) (wrap64 (t + wrap64 (1 + bt.1))) x (wrap64 (1 + bt.1)) (wrap64 (i - 1)) l bt.2.1 bt.2.2 := by
      intro m u1 u2 k0 k1
      exact Dr.bind (pick_dr hl u1 u2 m k0 (by omega)) fun y v1 v2 _ k2 k3 => go _ _ _ k2 (by omega)
    refine Dr.mono (n := 2 + (2 + 22 * n)) ?_ (fun _ h => h) (by omega)
    refine Dr.bind (pick_dr hl a1 a2 12 g0 (by omega)) fun c b1 b2 _ g2 g3 => ?_
    refine Dr.ite (fun _ => ?_) fun _ => Dr.ite (fun _ => ?_) fun _ => Dr.ite (fun _ => ?_) fun _ => ?_
    · exact go2 _ _ _ g2 (by omega)
    · exact go2 _ _ _ g2 (by omega)
    · exact go2 _ _ _ g2 (by omega)
    · exact Dr.mono (go _ _ _ g2 (by omega)) (fun _ h => h) (by omega)
theorem samples_dr {l : List Int} (hl : Byt l) (s1 s2 from_ most : Int) (m0 : 1 ≤ most) (m1 : most ≤ 4096) (h0 : 0 ≤ s1) (h1 : s1 + (6 + 22 * most) ≤ lim) : Dr (fun r => (r.length : Int) < most) (6 + 22 * most) s1 fun k => spec_l1Cur_samples.f k l s1 s2 from_ most := by
  unfold spec_l1Cur_samples.f
  refine Dr.mono (n := 2 + (2 + (2 + 22 * most))) ?_ (fun _ h => h) (by omega)
  refine Dr.bind (pick_dr hl s1 s2 100 h0 (by omega)) fun x a1 a2 _ g0 g1 => ?_
  refine Dr.bind (pick_dr hl a1 a2 15 g0 (by omega)) fun y b1 b2 _ g2 g3 => ?_
  refine Dr.bind (pick_dr hl b1 b2 most g2 (by omega)) fun z c1 c2 hz g4 g5 => ?_
  obtain ⟨n, hn⟩ := Int.eq_ofNat_of_zero_le hz.1
  have hz2 := hz.2.1 m0
  exact Dr.mono (samples_loop hl n [] from_ x (wrap64 (1 + y)) z c1 c2 hn (by simp; omega) g4 (by omega)) (fun r h => by rw [h]; simp; omega) (by omega)
theorem of2_dr {l : List Int} (hl : Byt l) (s1 s2 a b : Int) (h0 : 0 ≤ s1) (h1 : s1 + 1 ≤ lim) : Dr (fun _ => True) 2 s1 fun k => spec_l1Cur_of2.f k l s1 s2 a b := by
  unfold spec_l1Cur_of2.f
  refine Dr.mono (Dr.bind (n := 2) (m := 0) (one_dr hl s1 s2 2 h0 h1) fun c t1 t2 _ h2 h3 => ?_) (fun _ h => h) (by omega)
  exact Dr.ite (fun _ => Dr.now trivial h2 (by first | omega | (dsimp only; omega))) fun _ => Dr.now trivial h2 (by first | omega | (dsimp only; omega))
theorem oddSamples_dr {l : List Int} (hl : Byt l) (s1 s2 : Int) (x : List S53) (hx : x.length ≤ 1000000) (h0 : 0 ≤ s1) (h1 : s1 + 4 ≤ lim) : Dr (fun r => r.length ≤ x.length + 1) 4 s1 fun k => spec_l1Cur_oddSamples.f k l s1 s2 x := by
  unfold spec_l1Cur_oddSamples.f
  refine Dr.mono (n := 2 + 2) ?_ (fun _ h => h) (by omega)
  refine Dr.bind (pick_dr hl s1 s2 20 h0 (by omega)) fun c a1 a2 _ g0 g1 => ?_
  refine Dr.ite (fun _ => ?_) fun _ => Dr.ite (fun _ => ?_) fun _ => Dr.ite (fun _ => ?_) fun _ => ?_
  · refine Dr.ite (fun c => ?_) fun _ => Dr.now (by omega) g0 (by first | omega | (dsimp only; omega))
    refine Dr.ite (fun c2 => ?_) fun c2 => absurd c2 (by omega)
    exact Dr.ite (fun c3 => Dr.now (by simp) g0 (by first | omega | (dsimp only; omega))) fun c3 => absurd c3 (by omega)
  · refine Dr.mono (Dr.bind (n := 2) (m := 0) (of2_dr hl a1 a2 _ _ g0 (by omega)) fun y b1 b2 _ g2 g3 => ?_) (fun _ h => h) (by omega)
    exact Dr.ite (fun _ => Dr.now (by simp) g2 (by first | omega | (dsimp only; omega))) fun c => absurd (show x.length < 8796093022208 by omega) c
  · refine Dr.ite (fun c => ?_) fun _ => Dr.now (by omega) g0 (by first | omega | (dsimp only; omega))
    exact Dr.ite (fun c3 => Dr.now (by simp) g0 (by first | omega | (dsimp only; omega))) fun c3 => absurd c3 (by omega)
  · exact Dr.now (by omega) g0 (by first | omega | (dsimp only; omega))
/-! ### good samples -/
theorem rd_at (l : List S53) (i : Nat) (h : i < l.length) : rd_T53 l (i : Int) = l[i] := by
  unfold rd_T53
  rw [Int.toNat_natCast]
  exact getD_at l i _ h
def timeB (t : Int) : Bool := decide (0 ≤ t ∧ t ≤ 1000000000000)
def okAt (l : List S53) (i : Nat) : Bool := timeB (rd_T53 l i).f0 && (decide (i = 0) || decide ((rd_T53 l ((i : Int) - 1)).f0 < (rd_T53 l i).f0))
def goodB (l : List S53) : Bool := decide (l.length ≤ 2000) && allFrom (okAt l) l.length 0
theorem l3Time_f (t : Int) : spec_l3Time.f t = some (timeB t) := by
  unfold spec_l3Time.f timeB
  by_cases h : t ≥ 0 <;> simp [h] <;> omega
theorem isTime_f (t : Int) : impl_isTime.f t = some (timeB t) := by
  unfold impl_isTime.f timeB
  by_cases h : t ≥ 0 <;> simp [h] <;> omega
theorem specGood_loop (l : List S53) (hn : l.length ≤ 9223372036854775000) : ∀ i, i ≤ l.length → Ev (fun k => spec_GoodSamples.l0 k l l (l.length : Int) (i : Int)) (decide (l.length ≤ 2000) && allFrom (okAt l) l.length i) := by
  refine down ?_ ?_
  · refine ev_succ (ev_now fun k => ?_)
    simp only [spec_GoodSamples.l0, Int.lt_irrefl, if_false, allFrom_end]
    rw [Bool.and_true]
    congr 1
    rw [decide_eq_decide]; omega
  · intro i hi h
    rw [allFrom_step hi]
    have e5 := w64_succ hi (by omega : l.length ≤ 9223372036854775807)
    have e6 : wrap64 ((i : Int) - 1) = (i : Int) - 1 := w64 (by omega) (by omega)
    have jt : Ev (fun k => spec_GoodSamples.j1 k l l (l.length : Int) (i : Int) true) false := ev_succ (ev_now fun k => by simp [spec_GoodSamples.j1])
    have jf : Ev (fun k => spec_GoodSamples.j1 k l l (l.length : Int) (i : Int) false) (decide (l.length ≤ 2000) && allFrom (okAt l) l.length (i + 1)) := ev_succ (Ev.congr (fun k => by simp only [spec_GoodSamples.j1, Bool.false_eq_true, if_false, e5]) h)
    refine ev_succ ?_
    simp only [spec_GoodSamples.l0]
    simp only [if_pos (show (i : Int) < l.length by omega), if_pos (show (0 : Int) ≤ i by omega), l3Time_f, Option.bind_some]
    by_cases ht : timeB (rd_T53 l i).f0 = true
    · simp only [if_pos ht]
      by_cases h0 : i = 0
      · have hok : okAt l i = true := by simp [okAt, ht, h0]; subst h0; exact ht
        rw [hok, Bool.true_and]
        simp only [if_neg (show ¬ (i : Int) > 0 by omega)]
        exact jf
      · simp only [if_pos (show (i : Int) > 0 by omega), e6, if_pos (show (0 : Int) ≤ (i : Int) - 1 by omega), if_pos (show (i : Int) - 1 < l.length by omega)]
        by_cases hlt : (rd_T53 l ((i : Int) - 1)).f0 < (rd_T53 l i).f0
        · have hok : okAt l i = true := by simp [okAt, ht, hlt]
          rw [hok, Bool.true_and, show decide ((rd_T53 l ((i : Int) - 1)).f0 ≥ (rd_T53 l i).f0) = false from decide_eq_false (by omega)]
          exact jf
        · have hok : okAt l i = false := by simp [okAt, ht, hlt, h0]
          rw [hok, Bool.false_and, Bool.and_false, show decide ((rd_T53 l ((i : Int) - 1)).f0 ≥ (rd_T53 l i).f0) = true from decide_eq_true (by omega)]
          exact jt
    · have hok : okAt l i = false := by simp [okAt, ht]
      rw [hok, Bool.false_and, Bool.and_false]
      simp only [if_neg ht]
      exact jt
theorem specGood_ev (l : List S53) (hn : l.length ≤ 9223372036854775000) : Ev (fun k => spec_GoodSamples.f k l) (goodB l) := specGood_loop l hn 0 (Nat.zero_le _)
theorem implGood_loop (l : List S53) (hn : l.length ≤ 9223372036854775000) : ∀ i, i ≤ l.length → Ev (fun k => impl_GoodSamples.l0 k l l (l.length : Int) (i : Int)) (allFrom (okAt l) l.length i) := by
  refine down ?_ ?_
  · refine ev_succ (ev_now fun k => ?_)
    simp only [impl_GoodSamples.l0, Int.lt_irrefl, if_false, allFrom_end]
  · intro i hi h
    rw [allFrom_step hi]
    have e5 := w64_succ hi (by omega : l.length ≤ 9223372036854775807)
    have e6 : wrap64 ((i : Int) - 1) = (i : Int) - 1 := w64 (by omega) (by omega)
    have jt : Ev (fun k => impl_GoodSamples.j1 k l l (l.length : Int) (i : Int) true) false := ev_succ (ev_now fun k => by simp [impl_GoodSamples.j1])
    have jf : Ev (fun k => impl_GoodSamples.j1 k l l (l.length : Int) (i : Int) false) (allFrom (okAt l) l.length (i + 1)) := ev_succ (Ev.congr (fun k => by simp only [impl_GoodSamples.j1, Bool.false_eq_true, if_false, e5]) h)
    refine ev_succ ?_
    simp only [impl_GoodSamples.l0]
    simp only [if_pos (show (i : Int) < l.length by omega), if_pos (show (0 : Int) ≤ i by omega), isTime_f, Option.bind_some]
    by_cases ht : timeB (rd_T53 l i).f0 = true
    · simp only [if_pos ht]
      by_cases h0 : i = 0
      · have hok : okAt l i = true := by simp [okAt, ht, h0]; subst h0; exact ht
        rw [hok, Bool.true_and]
        simp only [if_neg (show ¬ (i : Int) > 0 by omega)]
        exact jf
      · simp only [if_pos (show (i : Int) > 0 by omega), e6, if_pos (show (0 : Int) ≤ (i : Int) - 1 by omega), if_pos (show (i : Int) - 1 < l.length by omega)]
        by_cases hlt : (rd_T53 l ((i : Int) - 1)).f0 < (rd_T53 l i).f0
        · have hok : okAt l i = true := by simp [okAt, ht, hlt]
          rw [hok, Bool.true_and, show decide ((rd_T53 l ((i : Int) - 1)).f0 ≥ (rd_T53 l i).f0) = false from decide_eq_false (by omega)]
          exact jf
        · have hok : okAt l i = false := by simp [okAt, ht, hlt, h0]
          rw [hok, Bool.false_and, show decide ((rd_T53 l ((i : Int) - 1)).f0 ≥ (rd_T53 l i).f0) = true from decide_eq_true (by omega)]
          exact jt
    · have hok : okAt l i = false := by simp [okAt, ht]
      rw [hok, Bool.false_and]
      simp only [if_neg ht]
      exact jt
theorem implGood_ev (l : List S53) (hn : l.length ≤ 9223372036854775000) : Ev (fun k => impl_GoodSamples.f k l) (goodB l) := by
  unfold goodB
  by_cases h : l.length ≤ 2000
  · have h1 := implGood_loop l hn 0 (Nat.zero_le _)
    simp only [h, decide_true, Bool.true_and]
    refine Ev.congr (fun k => ?_) h1
    unfold impl_GoodSamples.f
    rw [if_neg (by omega)]; rfl
  · simp only [h, decide_false, Bool.false_and]
    refine ev_now fun k => ?_
    unfold impl_GoodSamples.f
    rw [if_pos (by omega)]
/-- What good samples are. -/
structure Good (l : List S53) : Prop where
  len : l.length ≤ 2000
  lo : ∀ i, (h : i < l.length) → 0 ≤ (l[i]).f0 ∧ (l[i]).f0 ≤ 1000000000000
  up : ∀ i j, (hi : i < l.length) → (hj : j < l.length) → i < j → (l[i]).f0 < (l[j]).f0
theorem good_of {l : List S53} (h : goodB l = true) : Good l := by
  unfold goodB at h
  simp only [Bool.and_eq_true, decide_eq_true_eq] at h
  obtain ⟨h1, h2⟩ := h
  rw [allFrom_iff] at h2
  have h3 : ∀ i, (h : i < l.length) → timeB (l[i]).f0 = true ∧ (i = 0 ∨ (rd_T53 l ((i : Int) - 1)).f0 < (l[i]).f0) := by
    intro i hi
    have h4 := h2 i (Nat.zero_le _) hi
    unfold okAt at h4
    rw [rd_at l i hi] at h4
    simpa using h4
  refine ⟨h1, fun i hi => by have := (h3 i hi).1; simpa [timeB] using this, ?_⟩
  have step : ∀ i, (hi : i + 1 < l.length) → (l[i]).f0 < (l[i + 1]).f0 := by
    intro i hi
    rcases (h3 (i + 1) hi).2 with h5 | h5
    · omega
    · rw [show ((i + 1 : Nat) : Int) - 1 = (i : Int) from by omega, rd_at l i (by omega)] at h5
      exact h5
  intro i j hi hj hij
  obtain ⟨d, rfl⟩ : ∃ d, j = i + 1 + d := ⟨j - i - 1, by omega⟩
  clear hij
  induction d with
  | zero => exact step i hj
  | succ d ih => exact Int.lt_trans (ih (by omega)) (step (i + 1 + d) hj)


/-! ### cuts -/
theorem cut1_f (a b u v : Int) : impl_cut_1_with.f a b [u] [v] = some (decide (u ≤ a) && decide (a ≤ v)) := by
  have e1 : rd [u] 0 = u := rfl
  have e2 : rd [v] 0 = v := rfl
  unfold impl_cut_1_with.f
  rw [if_pos (by simp), e1, if_pos (by simp : (0 : Int) < (([v] : List Int).length : Int)), e2]
  by_cases h : a ≥ u
  · have h' : u ≤ a := h
    simp [h']
  · have h' : ¬ u ≤ a := h
    simp [h']
theorem implCut_loop (u v : Int) (rest : List S53) : ∀ (pre out : List S53), (pre ++ rest).length ≤ 1048576 → out.length + rest.length ≤ 1048576 →
    Ev (fun k => impl_Sample_at_impl_cut_1.l0 k out (pre ++ rest) ((pre ++ rest).length : Int) (pre.length : Int) [u] [v]) (out ++ rest.filter fun x => decide (u ≤ x.f0) && decide (x.f0 ≤ v)) := by
  induction rest with
  | nil =>
    intro pre out _ _
    refine ev_succ (ev_now fun k => ?_)
    simp [impl_Sample_at_impl_cut_1.l0]
  | cons x rest ih =>
    intro pre out hl ho
    have hlen : (pre ++ x :: rest).length = pre.length + 1 + rest.length := by simp; omega
    have hol : out.length + (rest.length + 1) ≤ 1048576 := by simpa using ho
    have e1 : (pre.length : Int) < ((pre ++ x :: rest).length : Int) := len_mid _ _ _
    have e3 : rd_T53 (pre ++ x :: rest) (pre.length : Int) = x := by unfold rd_T53; rw [Int.toNat_natCast]; exact getD_mid _ _ _ _
    have e5 : wrap64 ((pre.length : Int) + 1) = ((pre ++ [x]).length : Int) := by rw [len_succ]; exact w64 (by omega) (by omega)
    have ec : out.length < 8796093022208 := by omega
    by_cases ht : (decide (u ≤ x.f0) && decide (x.f0 ≤ v)) = true
    · have h := ih (pre ++ [x]) (out ++ [x]) (by simp at hl ⊢; omega) (by simp; omega)
      rw [← mid_assoc] at h
      have er : out ++ [x] ++ rest.filter (fun x => decide (u ≤ x.f0) && decide (x.f0 ≤ v)) = out ++ (x :: rest).filter fun x => decide (u ≤ x.f0) && decide (x.f0 ≤ v) := by rw [List.filter_cons, if_pos ht]; simp
      refine ev_eq (ev_succ (Ev.congr (fun k => ?_) h)) er
      simp only [impl_Sample_at_impl_cut_1.l0]
      rw [if_pos e1, if_pos (by omega : (0 : Int) ≤ pre.length), if_pos e1, e3]
      rw [cut1_f, Option.bind_some, if_pos ht]
      simp only [if_pos ec, e5]
    · have h := ih (pre ++ [x]) out (by simp at hl ⊢; omega) (by omega)
      rw [← mid_assoc] at h
      have er : out ++ rest.filter (fun x => decide (u ≤ x.f0) && decide (x.f0 ≤ v)) = out ++ (x :: rest).filter fun x => decide (u ≤ x.f0) && decide (x.f0 ≤ v) := by rw [List.filter_cons, if_neg ht]
      refine ev_eq (ev_succ (Ev.congr (fun k => ?_) h)) er
      simp only [impl_Sample_at_impl_cut_1.l0]
      rw [if_pos e1, if_pos (by omega : (0 : Int) ≤ pre.length), if_pos e1, e3]
      rw [cut1_f, Option.bind_some, if_neg ht]
      simp only [e5]
/-- What of a list lies from u to v. -/
def span (l : List S53) (u v : Int) : List S53 := l.filter fun x => decide (u ≤ x.f0) && decide (x.f0 ≤ v)
theorem implCut_ev (l : List S53) (u v : Int) (g : goodB l = true) : Ev (fun k => impl_CutSamples.f k l u v) (span l u v) := by
  have hl := (good_of g).len
  have h : Ev (fun k => impl_Sample_at_impl_cut_1.f k l [u] [v]) (span l u v) := implCut_loop u v l [] [] (by simp; omega) (by simp; omega)
  have h2 : Ev (fun k => impl_cut.f k l u v) (span l u v) := Ev.bind h (Ev.now _)
  unfold impl_CutSamples.f
  refine Ev.bind (implGood_ev l (by omega)) ?_
  simp only [if_pos g]
  exact Ev.bind h2 (Ev.now _)
theorem span_mem {l : List S53} {u v : Int} {q : S53} : q ∈ span l u v ↔ q ∈ l ∧ u ≤ q.f0 ∧ q.f0 ≤ v := by
  unfold span
  rw [List.mem_filter]
  simp
/-- One time alone: at most the one sample. -/
theorem span_one {l : List S53} (g : Good l) {s : S53} (hs : s ∈ l) : ∃ t, span l s.f0 s.f0 = s :: t := by
  have hm : s ∈ span l s.f0 s.f0 := span_mem.2 ⟨hs, Int.le_refl _, Int.le_refl _⟩
  cases h : span l s.f0 s.f0 with
  | nil => rw [h] at hm; simp at hm
  | cons q t =>
    have hq : q ∈ span l s.f0 s.f0 := by rw [h]; simp
    obtain ⟨h1, h2, h3⟩ := span_mem.1 hq
    obtain ⟨i, hi, rfl⟩ := List.getElem_of_mem hs
    obtain ⟨j, hj, rfl⟩ := List.getElem_of_mem h1
    have : i = j := by
      rcases Nat.lt_trichotomy i j with h5 | h5 | h5
      · have := g.up i j hi hj h5; omega
      · exact h5
      · have := g.up j i hj hi h5; omega
    subst this
    exact ⟨t, rfl⟩
/-! ### what FnMerged draws -/
theorem long_loop {l : List Int} (hl : Byt l) (m : Int) (hm : m ≤ 100000) : ∀ (n : Nat) (out : List S53) (i s1 s2 : Int), 0 ≤ i → i + n = m ∨ (n = 0 ∧ m ≤ i) → out.length + n ≤ 1000000 → 0 ≤ s1 → Dr (fun r => r.length = out.length + n) 0 s1 fun k => spec_l1Cur_longSamples.l0 k m out i l s1 s2 := by
  intro n
  induction n with
  | zero =>
    intro out i s1 s2 h0 hi ho h1
    refine Dr.succ ?_
    simp only [spec_l1Cur_longSamples.l0]
    exact Dr.ite (fun c => absurd c (by omega)) fun _ => Dr.now rfl h1 (by omega)
  | succ n ih =>
    intro out i s1 s2 h0 hi ho h1
    have e : wrap64 (i + 1) = i + 1 := w64 (by omega) (by omega)
    refine Dr.succ ?_
    simp only [spec_l1Cur_longSamples.l0, e]
    refine Dr.ite (fun c => ?_) fun c => absurd c (by omega)
    refine Dr.ite (fun _ => ?_) fun c => absurd (show out.length < 8796093022208 by omega) c
    exact Dr.mono (ih _ (i + 1) s1 s2 (by omega) (by omega) (by simp; omega) h1) (fun r h => by rw [h]; simp; omega) (by omega)
theorem long_dr {l : List Int} (hl : Byt l) (s1 s2 m : Int) (hm0 : 0 ≤ m) (hm : m ≤ 100000) (h0 : 0 ≤ s1) : Dr (fun r => (r.length : Int) = m) 0 s1 fun k => spec_l1Cur_longSamples.f k l s1 s2 m := by
  obtain ⟨n, rfl⟩ := Int.eq_ofNat_of_zero_le hm0
  exact Dr.mono (long_loop hl n hm n [] 0 s1 s2 (by omega) (by omega) (by simp; omega) h0) (fun r h => by rw [h]; simp) (by omega)
theorem draw_j1 {l : List Int} (hl : Byt l) (a b : List S53) (s1 s2 : Int) (ha : a.length ≤ 3000) (hb : b.length ≤ 3000) (h0 : 0 ≤ s1) (h1 : s1 + 100 ≤ lim) :
    ∃ r : List S53 × List S53, (r.1.length ≤ 4000 ∧ r.2.length ≤ 4000) ∧ Ev (fun k => spec_DrawMergeSamples.j1 k a b l s1 s2) r := by
  have key : ∃ r : List S53 × List S53, (r.1.length ≤ 4000 ∧ r.2.length ≤ 4000) ∧ Ev (fun k => spec_DrawMergeSamples.j1 (k + 1) a b l s1 s2) r := by
    simp only [spec_DrawMergeSamples.j1]
    refine Dr.then (oddSamples_dr hl s1 s2 a (by omega) h0 (by omega)) fun x a1 a2 hx g0 g1 => ?_
    refine Dr.then (oddSamples_dr hl a1 a2 b (by omega) g0 (by omega)) fun y b1 b2 hy g2 g3 => ?_
    exact ⟨_, ⟨by simp only []; omega, by simp only []; omega⟩, Ev.now _⟩
  obtain ⟨r, hr, he⟩ := key
  exact ⟨r, hr, ev_succ he⟩
theorem draw_l0 {l : List Int} (hl : Byt l) (a : List S53) (ha : a.length ≤ 3000) (m : Nat) (hm : m ≤ 3000) (s1 s2 : Int) (h0 : 0 ≤ s1) (h1 : s1 + 100 ≤ lim) : ∀ i, i ≤ m → ∀ b : List S53, b.length = m →
    ∃ r : List S53 × List S53, (r.1.length ≤ 4000 ∧ r.2.length ≤ 4000) ∧ Ev (fun k => spec_DrawMergeSamples.l0 k a b (m : Int) (i : Int) l s1 s2) r := by
  refine down ?_ ?_
  · intro b hb
    obtain ⟨r, hr, he⟩ := draw_j1 hl a b s1 s2 ha (by omega) h0 h1
    refine ⟨r, hr, ev_succ (Ev.congr (fun k => ?_) he)⟩
    simp only [spec_DrawMergeSamples.l0, Int.lt_irrefl, if_false]
  · intro i hi ih b hb
    obtain ⟨r, hr, he⟩ := ih (b.set ((i : Int)).toNat (⟨wrap64 (10000 + (i : Int)), (rd_T53 b i).f1⟩ : S53)) (by simpa using hb)
    refine ⟨r, hr, ev_succ (Ev.congr (fun k => ?_) he)⟩
    simp only [spec_DrawMergeSamples.l0]
    rw [if_pos (by omega), if_pos (by omega), if_pos (by omega), w64_succ hi (by omega)]
theorem draw_ev {l : List Int} (hl : Byt l) : ∃ r : List S53 × List S53, (r.1.length ≤ 4000 ∧ r.2.length ≤ 4000) ∧ Ev (fun k => spec_DrawMergeSamples.f k l) r := by
  have hlim : lim = 4611686018427387904 := rfl
  unfold spec_DrawMergeSamples.f
  refine Dr.then (pick_dr hl 0 0 20 (by omega) (by omega)) fun x a1 a2 _ g0 g1 => ?_
  refine Dr.then (samples_dr hl a1 a2 x 20 (by omega) (by omega) g0 (by omega)) fun a b1 b2 ha g2 g3 => ?_
  refine Dr.then (pick_dr hl b1 b2 20 g2 (by omega)) fun y c1 c2 _ g4 g5 => ?_
  refine Dr.then (samples_dr hl c1 c2 y 20 (by omega) (by omega) g4 (by omega)) fun b d1 d2 hb g6 g7 => ?_
  refine Dr.then (one_dr hl d1 d2 30 g6 (by omega)) fun c e1 e2 _ g8 g9 => ?_
  by_cases hc : c = true
  · simp only [hc, if_true]
    refine Dr.then (pick_dr hl e1 e2 11 g8 (by omega)) fun z f1 f2 hz g10 g11 => ?_
    have hz2 := hz.2.1 (by omega)
    have e : wrap64 (1990 + z) = 1990 + z := w64 (by omega) (by omega)
    simp only [e]
    refine Dr.then (long_dr hl f1 f2 (1990 + z) (by omega) (by omega) g10) fun a' h1 h2 ha' g12 g13 => ?_
    refine Dr.then (long_dr hl h1 h2 5 (by omega) (by omega) g12) fun b' i1 i2 hb' g14 g15 => ?_
    simp only []
    exact draw_l0 hl a' (by omega) b'.length (by omega) i1 i2 g14 (by omega) 0 (Nat.zero_le _) b' rfl
  · simp only [if_neg hc]
    exact draw_j1 hl a b e1 e2 (by omega) (by omega) g8 (by omega)

/-! ### merging -/
def mg : List S53 → List S53 → List S53
  | [], b => b
  | x :: a, [] => x :: a
  | x :: a, y :: b => if x.f0 = y.f0 then x :: mg a b else if x.f0 < y.f0 then x :: mg a (y :: b) else y :: mg (x :: a) b
termination_by a b => a.length + b.length
theorem mg_nil (a : List S53) : mg a [] = a := by cases a <;> simp [mg]
theorem mg_eq {x y : S53} {a b : List S53} (h : x.f0 = y.f0) : mg (x :: a) (y :: b) = x :: mg a b := by rw [mg, if_pos h]
theorem mg_lt {x y : S53} {a b : List S53} (h : x.f0 < y.f0) : mg (x :: a) (y :: b) = x :: mg a (y :: b) := by rw [mg, if_neg (by omega), if_pos h]
theorem mg_gt {x y : S53} {a b : List S53} (h : y.f0 < x.f0) : mg (x :: a) (y :: b) = y :: mg (x :: a) b := by rw [mg, if_neg (by omega), if_neg (by omega)]
theorem mg_self (a : List S53) : mg a a = a := by
  induction a with
  | nil => simp [mg]
  | cons x a ih => rw [mg_eq rfl, ih]
theorem mg_len : ∀ (n : Nat) (a b : List S53), a.length + b.length = n → (mg a b).length ≤ a.length + b.length ∧ a.length ≤ (mg a b).length ∧ b.length ≤ (mg a b).length := by
  intro n
  induction n using Nat.strongRecOn with
  | _ n ih =>
    intro a b hn
    cases a with
    | nil => simp [mg]
    | cons x a =>
      cases b with
      | nil => rw [mg_nil]; simp
      | cons y b =>
        simp only [List.length_cons] at hn
        rcases Int.lt_trichotomy x.f0 y.f0 with h | h | h
        · have := ih (a.length + (y :: b).length) (by simp; omega) a (y :: b) rfl
          rw [mg_lt h]
          simp only [List.length_cons] at this ⊢
          omega
        · have := ih (a.length + b.length) (by omega) a b rfl
          rw [mg_eq h]
          simp only [List.length_cons] at this ⊢
          omega
        · have := ih ((x :: a).length + b.length) (by simp; omega) (x :: a) b rfl
          rw [mg_gt h]
          simp only [List.length_cons] at this ⊢
          omega
theorem mg_assoc : ∀ (n : Nat) (a b c : List S53), a.length + b.length + c.length = n → mg (mg a b) c = mg a (mg b c) := by
  intro n
  induction n using Nat.strongRecOn with
  | _ n ih =>
    intro a b c hn
    cases a with
    | nil => simp [mg]
    | cons x a =>
      cases b with
      | nil => rw [mg_nil]; simp [mg]
      | cons y b =>
        cases c with
        | nil => rw [mg_nil, mg_nil]
        | cons z c =>
          simp only [List.length_cons] at hn
          have i1 := fun a b c h => ih _ h a b c rfl
          rcases Int.lt_trichotomy x.f0 y.f0 with h | h | h
          · rcases Int.lt_trichotomy y.f0 z.f0 with g | g | g
            · rw [mg_lt h, mg_lt g, mg_lt h, mg_lt (show x.f0 < z.f0 by omega), i1 a (y :: b) (z :: c) (by simp; omega), mg_lt g]
            · rw [mg_lt h, mg_eq g, mg_lt h, mg_lt (show x.f0 < z.f0 by omega), i1 a (y :: b) (z :: c) (by simp; omega), mg_eq g]
            · rw [mg_lt h, mg_gt g]
              rcases Int.lt_trichotomy x.f0 z.f0 with f | f | f
              · rw [mg_lt f, mg_lt f, i1 a (y :: b) (z :: c) (by simp; omega), mg_gt g]
              · rw [mg_eq f, mg_eq f, i1 a (y :: b) c (by simp; omega)]
              · rw [mg_gt f, mg_gt f, ← mg_lt h, i1 (x :: a) (y :: b) c (by simp; omega)]
          · rcases Int.lt_trichotomy y.f0 z.f0 with g | g | g
            · rw [mg_eq h, mg_lt g, mg_eq h, mg_lt (show x.f0 < z.f0 by omega), i1 a b (z :: c) (by simp; omega)]
            · rw [mg_eq h, mg_eq g, mg_eq h, mg_eq (show x.f0 = z.f0 by omega), i1 a b c (by omega)]
            · rw [mg_eq h, mg_gt g, mg_gt (show z.f0 < x.f0 by omega), mg_gt (show z.f0 < x.f0 by omega), ← mg_eq h, i1 (x :: a) (y :: b) c (by simp; omega)]
          · rcases Int.lt_trichotomy y.f0 z.f0 with g | g | g
            · rw [mg_gt h, mg_lt g, mg_lt g, mg_gt h, i1 (x :: a) b (z :: c) (by simp; omega)]
            · rw [mg_gt h, mg_eq g, mg_eq g, mg_gt h, i1 (x :: a) b c (by simp; omega)]
            · rw [mg_gt h, mg_gt g, mg_gt g, mg_gt (show z.f0 < x.f0 by omega), ← mg_gt h, i1 (x :: a) (y :: b) c (by simp; omega)]
theorem mg_mem : ∀ (n : Nat) (a b : List S53), a.length + b.length = n → a.Pairwise (fun x y => x.f0 < y.f0) → b.Pairwise (fun x y => x.f0 < y.f0) → (mg a b).Pairwise (fun x y => x.f0 < y.f0) ∧ ∀ q ∈ mg a b, q ∈ a ∨ (q ∈ b ∧ ∀ z ∈ a, z.f0 ≠ q.f0) := by
  intro n
  induction n using Nat.strongRecOn with
  | _ n ih =>
    intro a b hn ha hb
    cases a with
    | nil => simp [mg, hb]
    | cons x a =>
      cases b with
      | nil => rw [mg_nil]; exact ⟨ha, fun q hq => .inl hq⟩
      | cons y b =>
        obtain ⟨ha1, ha2⟩ := List.pairwise_cons.1 ha
        obtain ⟨hb1, hb2⟩ := List.pairwise_cons.1 hb
        simp only [List.length_cons] at hn
        rcases Int.lt_trichotomy x.f0 y.f0 with h | h | h
        · obtain ⟨p, m⟩ := ih (a.length + (y :: b).length) (by simp; omega) a (y :: b) rfl ha2 hb
          rw [mg_lt h]
          have hy : ∀ q ∈ y :: b, x.f0 < q.f0 := by
            intro q hq
            rcases List.mem_cons.1 hq with rfl | hq
            · exact h
            · have := hb1 q hq; omega
          refine ⟨List.pairwise_cons.2 ⟨fun q hq => ?_, p⟩, fun q hq => ?_⟩
          · rcases m q hq with h1 | h1
            · exact ha1 q h1
            · exact hy q h1.1
          · rcases List.mem_cons.1 hq with rfl | hq
            · exact .inl (by simp)
            · rcases m q hq with h1 | h1
              · exact .inl (by simp [h1])
              · refine .inr ⟨h1.1, fun z hz => ?_⟩
                rcases List.mem_cons.1 hz with rfl | hz
                · have := hy q h1.1; omega
                · exact h1.2 z hz
        · obtain ⟨p, m⟩ := ih (a.length + b.length) (by omega) a b rfl ha2 hb2
          rw [mg_eq h]
          refine ⟨List.pairwise_cons.2 ⟨fun q hq => ?_, p⟩, fun q hq => ?_⟩
          · rcases m q hq with h1 | h1
            · exact ha1 q h1
            · have := hb1 q h1.1; omega
          · rcases List.mem_cons.1 hq with rfl | hq
            · exact .inl (by simp)
            · rcases m q hq with h1 | h1
              · exact .inl (by simp [h1])
              · refine .inr ⟨by simp [h1.1], fun z hz => ?_⟩
                rcases List.mem_cons.1 hz with rfl | hz
                · have := hb1 q h1.1; omega
                · exact h1.2 z hz
        · obtain ⟨p, m⟩ := ih ((x :: a).length + b.length) (by simp; omega) (x :: a) b rfl ha hb2
          rw [mg_gt h]
          have hx : ∀ q ∈ x :: a, y.f0 < q.f0 := by
            intro q hq
            rcases List.mem_cons.1 hq with rfl | hq
            · exact h
            · have := ha1 q hq; omega
          refine ⟨List.pairwise_cons.2 ⟨fun q hq => ?_, p⟩, fun q hq => ?_⟩
          · rcases m q hq with h1 | h1
            · exact hx q h1
            · exact hb1 q h1.1
          · rcases List.mem_cons.1 hq with rfl | hq
            · exact .inr ⟨by simp, fun z hz => by have := hx z hz; omega⟩
            · rcases m q hq with h1 | h1
              · exact .inl h1
              · exact .inr ⟨by simp [h1.1], h1.2⟩
theorem merge_ev : ∀ (n : Nat) (a b out : List S53), a.length + b.length = n → out.length + n ≤ 100000 → Ev (fun k => impl_merge.l0 k a b out) (out ++ mg a b) := by
  intro n
  induction n using Nat.strongRecOn with
  | _ n ih =>
    intro a b out hn ho
    have hcap : out.length < 8796093022208 := by omega
    cases a with
    | nil =>
      cases b with
      | nil =>
        refine ev_succ (ev_succ (ev_now fun k => ?_))
        simp [impl_merge.l0, impl_merge.j1, mg]
      | cons y b =>
        have h := ih b.length (by simp at hn; omega) [] b (out ++ [y]) (by simp) (by simp at hn ⊢; omega)
        have er : out ++ [y] ++ mg [] b = out ++ mg [] (y :: b) := by simp [mg]
        have hy : ((y :: b).length : Int) > 0 := by simp only [List.length_cons]; omega
        have hy0 : ¬ (((y :: b).length : Int) = 0) := by omega
        refine ev_eq (ev_succ (ev_succ (ev_succ (Ev.congr (fun k => ?_) h)))) er
        simp only [impl_merge.l0]
        rw [if_neg (by simp), decide_eq_true hy]
        simp only [impl_merge.j1, if_true]
        rw [if_neg hy0, if_neg (by simp)]
        simp only [impl_merge.j2, Bool.false_eq_true, if_false]
        rw [if_pos (by omega), if_pos hcap, if_pos (by omega)]
        rfl
    | cons x a =>
      have hx : ((x :: a).length : Int) > 0 := by simp only [List.length_cons]; omega
      cases b with
      | nil =>
        have h := ih a.length (by simp at hn; omega) a [] (out ++ [x]) (by simp) (by simp at hn ⊢; omega)
        have er : out ++ [x] ++ mg a [] = out ++ mg (x :: a) [] := by rw [mg_nil, mg_nil]; simp
        refine ev_eq (ev_succ (ev_succ (ev_succ (Ev.congr (fun k => ?_) h)))) er
        simp only [impl_merge.l0]
        rw [if_pos hx]
        simp only [impl_merge.j1, if_true, List.length_nil, Int.natCast_zero]
        simp only [impl_merge.j2, if_true, List.length_nil, Int.natCast_zero]
        rw [if_neg (by omega), if_pos (by omega), if_pos hcap, if_pos (by omega)]
        rfl
      | cons y b =>
        have hy : ((y :: b).length : Int) > 0 := by simp only [List.length_cons]; omega
        have hy0 : ¬ (((y :: b).length : Int) = 0) := by omega
        simp only [List.length_cons] at hn
        have ex : rd_T53 (x :: a) 0 = x := rfl
        have ey : rd_T53 (y :: b) 0 = y := rfl
        have start : ∀ (c : Bool) r, c = decide (x.f0 ≤ y.f0) → Ev (fun k => impl_merge.j2 k (x :: a) (y :: b) out c) r → Ev (fun k => impl_merge.l0 k (x :: a) (y :: b) out) r := by
          intro c r hc h
          refine ev_succ (ev_succ (Ev.congr (fun k => ?_) h))
          simp only [impl_merge.l0]
          rw [if_pos hx]
          simp only [impl_merge.j1, if_true]
          rw [if_neg hy0, if_pos hx, if_pos (by omega), if_pos (by omega), ex, ey, hc]
        rcases Int.lt_trichotomy x.f0 y.f0 with h | h | h
        · have h1 := ih (a.length + (y :: b).length) (by simp; omega) a (y :: b) (out ++ [x]) rfl (by simp; omega)
          have er : out ++ [x] ++ mg a (y :: b) = out ++ mg (x :: a) (y :: b) := by rw [mg_lt h]; simp
          refine ev_eq (start true _ (decide_eq_true (by omega)).symm (ev_succ (Ev.congr (fun k => ?_) h1))) er
          simp only [impl_merge.j2, if_true]
          rw [if_pos hy, if_pos (by omega), if_pos (by omega), ex, ey, if_neg (by omega), if_pos hcap, if_pos (by omega)]
          rfl
        · have h1 := ih (a.length + b.length) (by omega) a b (out ++ [x]) rfl (by simp; omega)
          have er : out ++ [x] ++ mg a b = out ++ mg (x :: a) (y :: b) := by rw [mg_eq h]; simp
          refine ev_eq (start true _ (decide_eq_true (by omega)).symm (ev_succ (Ev.congr (fun k => ?_) h1))) er
          simp only [impl_merge.j2, if_true]
          rw [if_pos hy, if_pos (by omega), if_pos (by omega), ex, ey, if_pos h, if_pos (by omega), if_pos hcap, if_pos (by omega)]
          rfl
        · have h1 := ih ((x :: a).length + b.length) (by simp; omega) (x :: a) b (out ++ [y]) rfl (by simp; omega)
          have er : out ++ [y] ++ mg (x :: a) b = out ++ mg (x :: a) (y :: b) := by rw [mg_gt h]; simp
          refine ev_eq (start false _ (decide_eq_false (by omega)).symm (ev_succ (Ev.congr (fun k => ?_) h1))) er
          simp only [impl_merge.j2, Bool.false_eq_true, if_false]
          rw [if_pos (by omega), if_pos hcap, if_pos (by omega), ey]
          rfl
theorem mergeS_ev (a b : List S53) (ga : goodB a = true) (gb : goodB b = true) (hl : a.length + b.length ≤ 2000) : Ev (fun k => impl_MergeSamples.f k a b) (mg a b) := by
  have h : Ev (fun k => impl_merge.f k a b) (mg a b) := by
    have := merge_ev _ a b [] rfl (by simp; omega)
    exact this
  have hm := mg_len _ a b rfl
  unfold impl_MergeSamples.f
  refine Ev.bind (implGood_ev a (by omega)) ?_
  simp only [if_pos ga]
  refine Ev.bind (implGood_ev b (by omega)) ?_
  rw [gb]
  refine ev_succ ?_
  simp only [impl_MergeSamples.j0, Bool.not_true, Bool.false_eq_true, if_false]
  refine Ev.bind h ?_
  simp only [if_neg (show ¬ (((mg a b).length : Int) > 2000) by omega)]
  exact Ev.now _
theorem good_pw {l : List S53} (g : Good l) : l.Pairwise fun x y => x.f0 < y.f0 := by
  rw [List.pairwise_iff_getElem]
  exact fun i j hi hj h => g.up i j hi hj h
theorem goodB_of {l : List S53} (h1 : l.length ≤ 2000) (h2 : l.Pairwise fun x y => x.f0 < y.f0) (h3 : ∀ q ∈ l, 0 ≤ q.f0 ∧ q.f0 ≤ 1000000000000) : goodB l = true := by
  unfold goodB
  rw [Bool.and_eq_true, allFrom_iff]
  refine ⟨by simpa using h1, fun j _ hj => ?_⟩
  unfold okAt
  rw [Bool.and_eq_true]
  rw [rd_at l j hj]
  refine ⟨by simpa [timeB] using h3 _ (List.getElem_mem hj), ?_⟩
  by_cases h0 : j = 0
  · simp [h0]
  · rw [show ((j : Nat) : Int) - 1 = ((j - 1 : Nat) : Int) by omega, rd_at l (j - 1) (by omega)]
    have := List.pairwise_iff_getElem.1 h2 (j - 1) j (by omega) hj (by omega)
    simp [this]
theorem good_mem {l : List S53} (g : Good l) : ∀ q ∈ l, 0 ≤ q.f0 ∧ q.f0 ≤ 1000000000000 := by
  intro q hq
  obtain ⟨i, hi, rfl⟩ := List.getElem_of_mem hq
  exact g.lo i hi
theorem mg_good {a b : List S53} (ga : goodB a = true) (gb : goodB b = true) (hl : a.length + b.length ≤ 2000) : goodB (mg a b) = true := by
  have ha := good_of ga
  have hb := good_of gb
  obtain ⟨p, m⟩ := mg_mem _ a b rfl (good_pw ha) (good_pw hb)
  have := mg_len _ a b rfl
  refine goodB_of (by omega) p fun q hq => ?_
  rcases m q hq with h | h
  · exact good_mem ha q h
  · exact good_mem hb q h.1

/-! ### the law -/
theorem zSamples_self (l : List S53) (hl : l.length ≤ 9223372036854775000) : ∀ i, i ≤ l.length → Ev (fun k => laws_zSamples.l0 k l l (l.length : Int) (i : Int)) true := by
  refine down ?_ ?_
  · refine ev_succ (ev_now fun k => ?_)
    simp only [laws_zSamples.l0, Int.lt_irrefl, if_false]
  · intro i hi h
    refine ev_succ (Ev.congr (fun k => ?_) h)
    simp only [laws_zSamples.l0]
    rw [if_pos (by omega), if_pos (by omega), if_pos (by omega), if_pos (by omega), w64_succ hi (by omega)]
    simp
theorem zSamples_ev (l : List S53) (hl : l.length ≤ 9223372036854775000) : Ev (fun k => laws_zSamples.f k l l) true := by
  unfold laws_zSamples.f
  simp only [if_true]
  exact zSamples_self l hl 0 (Nat.zero_le _)
theorem span_single {l : List S53} (g : Good l) {s : S53} (hs : s ∈ l) : span l s.f0 s.f0 = [s] := by
  obtain ⟨t, ht⟩ := span_one g hs
  have hp : (span l s.f0 s.f0).Pairwise fun x y => x.f0 < y.f0 := (good_pw g).filter _
  rw [ht] at hp ⊢
  cases t with
  | nil => rfl
  | cons q t =>
    have h1 := (List.pairwise_cons.1 hp).1 q (by simp)
    have h2 := (span_mem.1 (show q ∈ span l s.f0 s.f0 by rw [ht]; simp)).2
    omega
theorem span_none {l : List S53} {t : Int} (h : ∀ q ∈ l, q.f0 ≠ t) : span l t t = [] := by
  rw [List.eq_nil_iff_forall_not_mem]
  intro q hq
  have := span_mem.1 hq
  exact h q this.1 (by omega)
theorem law_loop (a b d : List S53) (ga : goodB a = true) (gb : goodB b = true) (hd : d.length ≤ 2000) (hda : a.length ≤ d.length) (hdb : b.length ≤ d.length) (hmem : ∀ q ∈ d, q ∈ a ∨ (q ∈ b ∧ ∀ z ∈ a, z.f0 ≠ q.f0)) :
    ∀ i, i ≤ d.length → Ev (fun k => laws_FnMerged.l0 k a b d d (d.length : Int) (i : Int)) true := by
  have hga := good_of ga
  have hgb := good_of gb
  refine down ?_ ?_
  · refine ev_succ (ev_now fun k => ?_)
    simp only [laws_FnMerged.l0, Int.lt_irrefl, if_false]
    rw [if_pos (by omega), decide_eq_true (by omega)]
  · intro i hi h
    have hs := hmem d[i] (List.getElem_mem hi)
    have j4 : Ev (fun k => laws_FnMerged.j4 k a b d d (d.length : Int) (i : Int) false) true := by
      refine ev_succ (Ev.congr (fun k => ?_) h)
      simp only [laws_FnMerged.j4, Bool.false_eq_true, if_false]
      rw [w64_succ hi (by omega)]
    refine ev_succ ?_
    simp only [laws_FnMerged.l0]
    simp only [if_pos (show (i : Int) < d.length by omega), if_pos (show (0 : Int) ≤ i by omega), rd_at d i hi]
    refine Ev.bind (implCut_ev a d[i].f0 d[i].f0 ga) (Ev.bind (implCut_ev b d[i].f0 d[i].f0 gb) ?_)
    have e1 : rd_T53 [d[i]] 0 = d[i] := rfl
    rcases hs with h1 | ⟨h1, h2⟩
    · rw [span_single hga h1]
      simp only [List.length_singleton, e1, beq_self_eq_true, Bool.not_true, Bool.or_self, Bool.false_eq_true, if_false]
      simp only [if_pos (show ((1 : Nat) : Int) > 0 by omega), if_pos (show (0 : Int) < ((1 : Nat) : Int) by omega), if_neg (show ¬ (((1 : Nat) : Int) = 0) by omega)]
      exact j4
    · rw [span_none h2, span_single hgb h1]
      simp only [List.length_singleton, List.length_nil, e1, beq_self_eq_true, Bool.not_true, Bool.or_self]
      simp only [if_neg (show ¬ (((0 : Nat) : Int) > 0) by omega), if_pos (show (((0 : Nat) : Int) = 0) by omega), if_pos (show (0 : Int) < ((1 : Nat) : Int) by omega), if_pos (show (((1 : Nat) : Int) = 1) by omega)]
      exact j4
theorem FnMerged : laws_FnMerged.Pure := by
  intro l0 l1 _ _ w0 _ _ w1
  refine Ev.rounds ?_
  have h0 := byt_of w0
  have h1 := byt_of w1
  have ht : Ev (fun k => laws_FnMerged.j0 k l0 l1 true) true := ev_succ (ev_now fun k => by simp [laws_FnMerged.j0])
  unfold laws_FnMerged.f
  by_cases c : (l0.length : Int) > 1048576
  · simp only [if_pos c]
    exact ht
  · simp only [if_neg c]
    by_cases d : (l1.length : Int) > 1048576
    · rw [decide_eq_true d]
      exact ht
    · rw [decide_eq_false d]
      refine ev_succ ?_
      simp only [laws_FnMerged.j0, Bool.false_eq_true, if_false]
      obtain ⟨⟨a, b⟩, ⟨la, lb⟩, ha⟩ := draw_ev h0
      obtain ⟨⟨e, f⟩, ⟨le, _⟩, hc⟩ := draw_ev h1
      simp only at la lb le
      have jt : Ev (fun k => laws_FnMerged.j1 k a b e true) true := ev_succ (ev_now fun k => by simp [laws_FnMerged.j1])
      refine Ev.bind ha (Ev.bind hc (Ev.bind (specGood_ev a (by omega)) ?_))
      by_cases ga : goodB a = true
      · simp only [if_pos ga]
        refine Ev.bind (specGood_ev b (by omega)) ?_
        by_cases gb : goodB b = true
        · simp only [if_pos gb]
          refine Ev.bind (specGood_ev e (by omega)) ?_
          by_cases ge : goodB e = true
          · simp only [if_pos ge]
            rw [w64 (x := (a.length : Int) + b.length) (by omega) (by omega), w64 (x := (a.length : Int) + b.length + e.length) (by omega) (by omega)]
            by_cases hs : (a.length : Int) + b.length + e.length > 2000
            · rw [decide_eq_true hs]
              exact jt
            · rw [decide_eq_false hs]
              refine ev_succ ?_
              simp only [laws_FnMerged.j1, Bool.false_eq_true, if_false]
              have lab := mg_len _ a b rfl
              have lbc := mg_len _ b e rfl
              have laa : Ev (fun k => impl_MergeSamples.f k a a) a := by
                have hga := good_of ga
                have h : Ev (fun k => impl_merge.f k a a) (mg a a) := merge_ev _ a a [] rfl (by simp; omega)
                rw [mg_self] at h
                unfold impl_MergeSamples.f
                refine Ev.bind (implGood_ev a (by omega)) ?_
                simp only [if_pos ga]
                refine Ev.bind (implGood_ev a (by omega)) ?_
                rw [ga]
                refine ev_succ ?_
                simp only [impl_MergeSamples.j0, Bool.not_true, Bool.false_eq_true, if_false]
                refine Ev.bind h ?_
                simp only [if_neg (show ¬ ((a.length : Int) > 2000) by omega)]
                exact Ev.now _
              refine Ev.bind (mergeS_ev a b ga gb (by omega)) (Ev.bind laa (Ev.bind (zSamples_ev a (by omega)) ?_))
              simp only [if_true]
              refine Ev.bind (mergeS_ev (mg a b) e (mg_good ga gb (by omega)) ge (by omega)) ?_
              refine Ev.bind (mergeS_ev b e gb ge (by omega)) ?_
              refine Ev.bind (mergeS_ev a (mg b e) ga (mg_good gb ge (by omega)) (by omega)) ?_
              rw [mg_assoc _ a b e rfl]
              have lall := mg_len _ a (mg b e) rfl
              refine Ev.bind (zSamples_ev _ (by omega)) ?_
              simp only [Bool.not_true]
              refine ev_succ ?_
              simp only [laws_FnMerged.j2, Bool.false_eq_true, if_false]
              exact law_loop a b (mg a b) ga gb (by omega) (by omega) (by omega) (mg_mem _ a b rfl (good_pw (good_of ga)) (good_pw (good_of gb))).2 0 (Nat.zero_le _)
          · simp only [if_neg ge]
            exact jt
        · simp only [if_neg gb]
          exact jt
      · simp only [if_neg ga]
        exact jt

end Go.Proofs.Ytppifefhpjhmaaa.Pure
