/- What is added to drawn bits is taken from where it was put, and all ahead of it is as it was. No condition. -/
import Derived.Test.YtppifefhpjhmaaaPFnBitsx9
import Derived.Test.YtppifefhpjhmaaaKit
import Derived.Laws.BitsLemmas
namespace Go.Proofs.Ytppifefhpjhmaaa.Pure
open Go.RowKit Go.Proofs.Ytppifefhpjhmaaa.PFnBits Go.Proofs.YtppifefhpjhmaaaW.PrintWords Go.Proofs.YtppifefhpjhmaaaW.PrintLast Go.Proofs.YtppifefhpjhmaaaW.PrintMore Go.Proofs.Ytppifefhpjhmaaa.Kit
set_option linter.unusedVariables false
set_option linter.unusedSimpArgs false

/-! ### the drawing cursor: it always answers, and it moves a little -/
/-- What is drawn from: bytes. -/
def Byt (l : List Int) : Prop := ∀ x ∈ l, 0 ≤ x ∧ x ≤ 255
theorem byt_of {l : List Int} (h : ∀ x ∈ l, (Lit.int .u8 x).wf = true) : Byt l := by
  intro x hx
  have h1 : IntKind.u8.min = 0 := rfl
  have h2 : IntKind.u8.max = 255 := rfl
  have h3 := h x hx
  simp only [Lit.wf, Bool.and_eq_true, decide_eq_true_eq, h1, h2] at h3
  exact h3
theorem byt_rd {l : List Int} (h : Byt l) (i : Int) : 0 ≤ rd l i ∧ rd l i ≤ 255 := by
  unfold rd
  rw [List.getD_eq_getElem?_getD]
  by_cases hi : i.toNat < l.length
  · rw [List.getElem?_eq_getElem hi]
    exact h _ (List.getElem_mem hi)
  · rw [List.getElem?_eq_none (by omega)]
    simp
/-- A drawing function's run at (s1, s2): it answers something that p holds of, and the cursor has moved by at most n. -/
def Dr {α : Type} (p : α → Prop) (n : Int) (s1 : Int) (g : Nat → Option (α × Int × Int)) : Prop := ∃ a t1 t2, p a ∧ 0 ≤ t1 ∧ t1 ≤ s1 + n ∧ Ev g (a, t1, t2)
def lim : Int := 4611686018427387904
theorem seed_and (x : Int) : 0 ≤ wrap64 (Go.bits .and .u64 (IntKind.u64.wrap x / 1099511627776) 255) ∧ wrap64 (Go.bits .and .u64 (IntKind.u64.wrap x / 1099511627776) 255) ≤ 255 := by
  have hx : IntKind.u64.wrap x = x % 18446744073709551616 := by simp [IntKind.wrap, IntKind.bits, IntKind.signed]
  have h := bits_mask .u64 24 (by decide) (fun n h0 h1 => wu64 h0 (by omega)) 8 (by decide) (IntKind.u64.wrap x / 1099511627776) (by rw [hx]; omega) (by rw [hx]; omega)
  have e : (2 ^ 8 - 1 : Int) = 255 := by decide
  rw [e] at h
  rw [h, show (2 ^ 8 : Int) = 256 by decide, w64 (by omega) (by omega)]
  omega
theorem next_dr {l : List Int} (hl : Byt l) (s1 s2 : Int) (h0 : 0 ≤ s1) (h1 : s1 ≤ lim) : Dr (fun b => 0 ≤ b ∧ b ≤ 255) 1 s1 fun k => spec_l1Cur_next.f k l s1 s2 := by
  have hlim : lim = 4611686018427387904 := rfl
  have key : ∀ b, 0 ≤ b ∧ b ≤ 255 → Dr (fun b => 0 ≤ b ∧ b ≤ 255) 1 s1 fun k => spec_l1Cur_next.j0 k b l s1 s2 := by
    intro b hb
    have e : wrap64 (s1 + 1) = s1 + 1 := w64 (by omega) (by omega)
    by_cases c : s1 + 1 ≤ (l.length : Int)
    · refine ⟨_, _, _, hb, ?_, ?_, ev_succ (ev_now fun k => by simp only [spec_l1Cur_next.j0, e]; rw [if_pos c])⟩ <;> omega
    · refine ⟨_, _, _, seed_and _, ?_, ?_, ev_succ (ev_now fun k => by simp only [spec_l1Cur_next.j0, e]; rw [if_neg c])⟩ <;> omega
  unfold spec_l1Cur_next.f
  by_cases c : s1 < (l.length : Int)
  · simp only [if_pos c, if_pos h0]
    have hb := byt_rd hl s1
    have e : wrap64 (rd l s1) = rd l s1 := w64 (by omega) (by omega)
    rw [e]
    exact key _ hb
  · simp only [if_neg c]
    exact key 0 (by omega)
/-- Draw, then go on. -/
theorem Dr.then {α β : Type} {p : α → Prop} {n s1 : Int} {g : Nat → Option (α × Int × Int)} (h : Dr p n s1 g) {Q : β → Prop} {f : Nat → α × Int × Int → Option β}
    (k : ∀ a t1 t2, p a → 0 ≤ t1 → t1 ≤ s1 + n → ∃ r, Q r ∧ Ev (fun k => f k (a, t1, t2)) r) : ∃ r, Q r ∧ Ev (fun k => (g k).bind (f k)) r := by
  obtain ⟨a, t1, t2, hp, h0, h1, he⟩ := h
  obtain ⟨r, hr, hk⟩ := k a t1 t2 hp h0 h1
  exact ⟨r, hr, Ev.bind he hk⟩
/-- Draw, then go on drawing. -/
theorem Dr.bind {α β : Type} {p : α → Prop} {n s1 : Int} {g : Nat → Option (α × Int × Int)} (h : Dr p n s1 g) {q : β → Prop} {m : Int} {f : Nat → α × Int × Int → Option (β × Int × Int)}
    (k : ∀ a t1 t2, p a → 0 ≤ t1 → t1 ≤ s1 + n → Dr q m t1 (fun k => f k (a, t1, t2))) : Dr q (n + m) s1 (fun k => (g k).bind (f k)) := by
  obtain ⟨a, t1, t2, hp, h0, h1, he⟩ := h
  obtain ⟨b, u1, u2, hq, h2, h3, hk⟩ := k a t1 t2 hp h0 h1
  exact ⟨b, u1, u2, hq, h2, by omega, Ev.bind he hk⟩
theorem Dr.mono {α : Type} {p q : α → Prop} {n m s1 : Int} {g : Nat → Option (α × Int × Int)} (h : Dr p n s1 g) (hp : ∀ a, p a → q a) (hn : n ≤ m) : Dr q m s1 g := by
  obtain ⟨a, t1, t2, h0, h1, h2, h3⟩ := h
  exact ⟨a, t1, t2, hp a h0, h1, by omega, h3⟩
theorem Dr.now {α : Type} {p : α → Prop} {n s1 t1 t2 : Int} {a : α} (hp : p a) (h0 : 0 ≤ t1) (h1 : t1 ≤ s1 + n) : Dr p n s1 (fun _ => some (a, t1, t2)) := ⟨a, t1, t2, hp, h0, h1, Ev.now _⟩
theorem Dr.succ {α : Type} {p : α → Prop} {n s1 : Int} {g : Nat → Option (α × Int × Int)} (h : Dr p n s1 fun k => g (k + 1)) : Dr p n s1 g := by
  obtain ⟨a, t1, t2, h0, h1, h2, h3⟩ := h
  exact ⟨a, t1, t2, h0, h1, h2, ev_succ h3⟩
theorem Dr.ite {α : Type} {p : α → Prop} {n s1 : Int} {c : Prop} [Decidable c] {g h : Nat → Option (α × Int × Int)} (hg : c → Dr p n s1 g) (hh : ¬ c → Dr p n s1 h) : Dr p n s1 (fun k => if c then g k else h k) := by
  by_cases hc : c
  · simp only [if_pos hc]; exact hg hc
  · simp only [if_neg hc]; exact hh hc
theorem pick_dr {l : List Int} (hl : Byt l) (s1 s2 n : Int) (h0 : 0 ≤ s1) (h1 : s1 + 1 ≤ lim) : Dr (fun a => 0 ≤ a ∧ (1 ≤ n → a < n) ∧ a ≤ 65535) 2 s1 fun k => spec_l1Cur_pick.f k l s1 s2 n := by
  unfold spec_l1Cur_pick.f
  refine Dr.ite (fun c => Dr.now ⟨by omega, by omega, by omega⟩ h0 (by first | omega | (dsimp only; omega))) fun c => ?_
  have hm : ∀ x : Int, 0 ≤ x → x ≤ 65535 → 0 ≤ Int.tmod x n ∧ (1 ≤ n → Int.tmod x n < n) ∧ Int.tmod x n ≤ 65535 := by
    intro x hx hx2
    rw [Int.tmod_eq_emod_of_nonneg hx]
    have a := Int.emod_nonneg x (show n ≠ 0 by omega)
    have b := Int.emod_lt_of_pos x (show 0 < n by omega)
    refine ⟨a, fun _ => b, ?_⟩
    by_cases hxn : x < n
    · rw [Int.emod_eq_of_lt hx hxn]; exact hx2
    · omega
  refine Dr.bind (n := 1) (m := 1) (next_dr hl s1 s2 h0 (by omega)) fun a t1 t2 ha h2 h3 => ?_
  refine Dr.ite (fun c2 => ?_) fun c2 => ?_
  · refine Dr.mono (n := 1 + 0) ?_ (fun _ h => h) (by omega)
    refine Dr.bind (next_dr hl t1 t2 h2 (by omega)) fun b u1 u2 hb h4 h5 => ?_
    refine Dr.ite (fun c3 => absurd c3 (by omega)) fun _ => ?_
    have e : wrap64 (wrap64 (a * 256) + b) = a * 256 + b := by rw [w64 (x := a * 256) (by omega) (by omega), w64 (by omega) (by omega)]
    simp only [e]
    exact Dr.now (hm _ (by omega) (by omega)) h4 (by first | omega | (dsimp only; omega))
  · refine Dr.ite (fun c3 => absurd c3 (by omega)) fun _ => ?_
    exact Dr.now (hm _ (by omega) (by omega)) h2 (by first | omega | (dsimp only; omega))
theorem one_dr {l : List Int} (hl : Byt l) (s1 s2 n : Int) (h0 : 0 ≤ s1) (h1 : s1 + 1 ≤ lim) : Dr (fun _ => True) 2 s1 fun k => spec_l1Cur_one.f k l s1 s2 n := by
  unfold spec_l1Cur_one.f
  exact Dr.mono (Dr.bind (n := 2) (m := 0) (pick_dr hl s1 s2 n h0 h1) fun a t1 t2 ha h2 h3 => Dr.now trivial h2 (by first | omega | (dsimp only; omega))) (fun _ h => h) (by omega)
/-! ### bits in bytes -/
theorem i64_range (x : Int) : -9223372036854775808 ≤ IntKind.i64.wrap x ∧ IntKind.i64.wrap x ≤ 9223372036854775807 := by
  rw [IntKind.wrap_i64]
  omega
theorem w64_rng (x : Int) : -9223372036854775808 ≤ wrap64 x ∧ wrap64 x ≤ 9223372036854775807 := by
  unfold wrap64
  omega
def byte (d : List Int) (i : Nat) : Nat := (d.getD (i / 8) 0).toNat
/-- Bit number i. -/
def B (d : List Int) (i : Nat) : Bool := (byte d i).testBit (7 - i % 8)
/-- s bits lie in d, and nothing behind them. -/
structure Fine (d : List Int) (s : Nat) : Prop where
  len : d.length = (s + 7) / 8
  byt : Byt d
  off : ∀ i, s ≤ i → B d i = false
theorem byt_getD {d : List Int} (h : Byt d) (k : Nat) : 0 ≤ d.getD k 0 ∧ d.getD k 0 ≤ 255 := by
  have := byt_rd h (k : Int)
  unfold rd at this
  simpa using this
theorem byte_lt {d : List Int} (h : Byt d) (i : Nat) : byte d i < 256 := by
  have := byt_getD h (i / 8)
  unfold byte
  omega
theorem B_beyond {d : List Int} {i : Nat} (h : 8 * d.length ≤ i) : B d i = false := by
  unfold B byte
  rw [List.getD_eq_getElem?_getD, List.getElem?_eq_none (by omega)]
  simp
def ext (d : List Int) (s : Nat) : List Int := if s % 8 = 0 then d ++ [0] else d
theorem ext_getD (d : List Int) (s k : Nat) : (ext d s).getD k 0 = d.getD k 0 := by
  unfold ext
  split
  · rw [List.getD_eq_getElem?_getD, List.getD_eq_getElem?_getD]
    rcases Nat.lt_trichotomy k d.length with h | h | h
    · rw [List.getElem?_append_left h]
    · subst h
      simp
    · rw [List.getElem?_eq_none (by simp; omega), List.getElem?_eq_none (by omega)]
  · rfl
theorem ext_len {d : List Int} {s : Nat} (h : Fine d s) : (ext d s).length = s / 8 + 1 := by
  have := h.len
  unfold ext
  split
  · simp; omega
  · omega
theorem ext_byt {d : List Int} {s : Nat} (h : Byt d) : Byt (ext d s) := by
  unfold ext
  split
  · intro x hx
    rcases List.mem_append.1 hx with h1 | h1
    · exact h x h1
    · simp at h1
      omega
  · exact h
/-- d with one bit more. -/
def putB (d : List Int) (s : Nat) (b : Bool) : List Int := if b = true then (ext d s).set (s / 8) ((byte d s ||| 2 ^ (7 - s % 8) : Nat) : Int) else ext d s
theorem pow7 (r : Nat) : 2 ^ (7 - r) < 2 ^ 8 := Nat.pow_lt_pow_right (by decide) (by omega)
theorem putB_len {d : List Int} {s : Nat} (b : Bool) (h : Fine d s) : (putB d s b).length = s / 8 + 1 := by
  unfold putB
  split
  · rw [List.length_set, ext_len h]
  · exact ext_len h
theorem putB_byt {d : List Int} {s : Nat} (b : Bool) (h : Fine d s) : Byt (putB d s b) := by
  unfold putB
  split
  · intro x hx
    rcases List.mem_or_eq_of_mem_set hx with h1 | h1
    · exact ext_byt h.byt x h1
    · subst h1
      have := Nat.or_lt_two_pow (n := 8) (byte_lt h.byt s) (pow7 (s % 8))
      have e : (2 : Nat) ^ 8 = 256 := by decide
      omega
  · exact ext_byt h.byt
theorem putB_B {d : List Int} {s : Nat} (b : Bool) (h : Fine d s) (i : Nat) : B (putB d s b) i = if i = s then b else B d i := by
  have e0 : ∀ j, B (ext d s) j = B d j := fun j => by unfold B byte; rw [ext_getD]
  have hs : B d s = false := h.off s (Nat.le_refl _)
  unfold putB
  cases b with
  | false =>
    simp only [Bool.false_eq_true, if_false]
    rw [e0]
    split
    · rename_i hi; rw [hi, hs]
    · rfl
  | true =>
    simp only [if_true]
    unfold B byte
    by_cases h8 : i / 8 = s / 8
    · rw [h8, List.getD_eq_getElem?_getD, List.getElem?_set_self (by rw [ext_len h]; omega)]
      simp only [Option.getD_some, Int.toNat_natCast, Nat.testBit_or, Nat.testBit_two_pow]
      by_cases hi : i = s
      · subst hi
        simp
      · rw [if_neg hi]
        have hne : ¬ 7 - s % 8 = 7 - i % 8 := by omega
        have hb : byte d s = (d.getD (s / 8) 0).toNat := rfl
        simp [hne, hb]
    · rw [List.getD_eq_getElem?_getD, List.getElem?_set_ne (by omega), ← List.getD_eq_getElem?_getD, ext_getD]
      rw [if_neg (by rintro rfl; exact h8 rfl)]
theorem putB_fine {d : List Int} {s : Nat} (b : Bool) (h : Fine d s) : Fine (putB d s b) (s + 1) := by
  refine ⟨by rw [putB_len b h]; omega, putB_byt b h, fun i hi => ?_⟩
  rw [putB_B b h, if_neg (by omega)]
  exact h.off i (by omega)
/-- The low bits of v, n of them, from the highest on. -/
def addB : List Int → Nat → Nat → Nat → List Int
  | d, _, _, 0 => d
  | d, s, V, m + 1 => addB (putB d s (V.testBit m)) (s + 1) V m
theorem addB_spec (V : Nat) : ∀ (m : Nat) (d : List Int) (s : Nat), Fine d s → Fine (addB d s V m) (s + m) ∧ (∀ i, i < s → B (addB d s V m) i = B d i) ∧ (∀ i, i < m → B (addB d s V m) (s + i) = V.testBit (m - 1 - i))
  | 0, d, s, h => ⟨h, fun _ _ => rfl, fun i hi => by omega⟩
  | m + 1, d, s, h => by
    obtain ⟨h1, h2, h3⟩ := addB_spec V m (putB d s (V.testBit m)) (s + 1) (putB_fine _ h)
    simp only [addB]
    refine ⟨by rw [show s + (m + 1) = s + 1 + m by omega]; exact h1, fun i hi => ?_, fun i hi => ?_⟩
    · rw [h2 i (by omega), putB_B _ h, if_neg (by omega)]
    · cases i with
      | zero =>
        show B (addB (putB d s (V.testBit m)) (s + 1) V m) s = V.testBit m
        rw [h2 s (by omega), putB_B _ h, if_pos rfl]
      | succ i =>
        have := h3 i (by omega)
        rw [show s + (i + 1) = s + 1 + i by omega, this]
        congr 1
        omega
/-! #### the code's words -/
theorem t8 (s : Nat) : Int.tmod (s : Int) 8 = ((s % 8 : Nat) : Int) := by
  rw [Int.tmod_eq_emod_of_nonneg (by omega)]
  omega
theorem d8 (s : Nat) (h : s ≤ 9223372036854775807) : wrap64 (Int.tdiv (s : Int) 8) = ((s / 8 : Nat) : Int) := by
  rw [Int.tdiv_eq_ediv_of_nonneg (by omega), w64 (by omega) (by omega)]
  omega
theorem shr128 (r : Nat) (h : r < 8) : shr .u8 128 (r : Int) = ((2 ^ (7 - r) : Nat) : Int) := by
  have : r = 0 ∨ r = 1 ∨ r = 2 ∨ r = 3 ∨ r = 4 ∨ r = 5 ∨ r = 6 ∨ r = 7 := by omega
  rcases this with rfl | rfl | rfl | rfl | rfl | rfl | rfl | rfl <;> decide
theorem or_u8 (x : Int) (h0 : 0 ≤ x) (h1 : x ≤ 255) (r : Nat) : Go.bits .or .u8 x ((2 ^ (7 - r) : Nat) : Int) = ((x.toNat ||| 2 ^ (7 - r) : Nat) : Int) := by
  obtain ⟨n, rfl⟩ := Int.eq_ofNat_of_zero_le h0
  rw [Int.toNat_natCast]
  exact (bits_nat .u8 8 (by decide) wraps_u8 n _ (by omega) (pow7 r)).2
/-- v as 64 bits. -/
def V64 (v : Int) : Nat := (IntKind.u64.wrap v).toNat
theorem V64_eq (v : Int) : IntKind.u64.wrap v = (V64 v : Int) ∧ V64 v < 2 ^ 64 := by
  have h : IntKind.u64.wrap v = v % 18446744073709551616 := by simp [IntKind.wrap, IntKind.bits, IntKind.signed]
  unfold V64
  have e : (2 : Nat) ^ 64 = 18446744073709551616 := by decide
  rw [h, e]
  omega
theorem p64 : (2 : Int) ^ 64 = 18446744073709551616 := by decide
theorem wrapu (n : Int) (h0 : 0 ≤ n) (h1 : n < 2 ^ 64) : IntKind.u64.wrap n = n := by
  rw [p64] at h1
  exact wu64 h0 (by omega)
theorem bit_of (v : Int) (t : Nat) (ht : t ≤ 63) : Go.bits .and .u64 (shr .u64 (IntKind.u64.wrap v) (t : Int)) 1 = if (V64 v).testBit t = true then 1 else 0 := by
  obtain ⟨e, hlt⟩ := V64_eq v
  have h1 : shr .u64 (IntKind.u64.wrap v) (t : Int) = ((V64 v / 2 ^ t : Nat) : Int) := by
    unfold shr
    rw [e, Int.toNat_natCast, Nat.min_eq_left (show t ≤ IntKind.u64.bits by simp [IntKind.bits]; omega)]
    simp
  have hq : V64 v / 2 ^ t < 2 ^ 64 := Nat.lt_of_le_of_lt (Nat.div_le_self _ _) hlt
  have h2 := (bits_nat .u64 64 (by decide) wrapu (V64 v / 2 ^ t) 1 hq (by decide)).1
  rw [h1, show (1 : Int) = ((1 : Nat) : Int) from rfl, h2, Nat.and_one_is_mod, Nat.testBit_eq_decide_div_mod_eq]
  have := Nat.mod_two_eq_zero_or_one (V64 v / 2 ^ t)
  rcases this with h | h <;> simp [h]
theorem put_ev (d : List Int) (s : Nat) (b : Bool) (h : Fine d s) (hs : s ≤ 1000000) : Ev (fun k => spec_l1Put.f k d (s : Int) (if b = true then 1 else 0)) (putB d s b, ((s + 1 : Nat) : Int)) := by
  have hl := h.len
  have hx := ext_len h
  have hw : wrap64 ((s : Int) + 1) = ((s + 1 : Nat) : Int) := by rw [w64 (by omega) (by omega)]; omega
  have hg : rd (ext d s) ((s / 8 : Nat) : Int) = (d.getD (s / 8) 0) := by unfold rd; rw [Int.toNat_natCast]; exact ext_getD d s _
  have hb := byt_getD h.byt (s / 8)
  have hj : Ev (fun k => spec_l1Put.j0 k (if b = true then 1 else 0) (ext d s) (s : Int)) (putB d s b, ((s + 1 : Nat) : Int)) := by
    refine ev_succ (ev_now fun k => ?_)
    simp only [spec_l1Put.j0, d8 s (by omega), t8, hw]
    cases b with
    | false => simp [putB]
    | true =>
      simp only [if_true]
      rw [if_pos (by omega), if_pos (by omega), wu64 (by omega) (by omega), if_pos (by omega), hg, shr128 _ (by omega), or_u8 _ hb.1 hb.2, Int.toNat_natCast]
      simp only [putB, if_true]
      rfl
  unfold spec_l1Put.f
  simp only [t8]
  by_cases h8 : s % 8 = 0
  · have e : ext d s = d ++ [0] := by unfold ext; rw [if_pos h8]
    rw [e] at hj
    simp only [if_pos (show ((s % 8 : Nat) : Int) = 0 by omega), if_pos (show d.length < 140737488355328 by omega)]
    exact hj
  · have e : ext d s = d := by unfold ext; rw [if_neg h8]
    rw [e] at hj
    simp only [if_neg (show ¬ ((s % 8 : Nat) : Int) = 0 by omega)]
    exact hj
theorem specAdd_ev (v : Int) : ∀ (m : Nat) (d : List Int) (s : Nat), m ≤ 64 → s + m ≤ 1000000 → Fine d s → Ev (fun k => spec_l1Add.l0 k v ((m : Int) - 1) d (s : Int)) (addB d s (V64 v) m, ((s + m : Nat) : Int))
  | 0, d, s, _, _, _ => ev_succ (ev_now fun k => by simp [spec_l1Add.l0, addB])
  | m + 1, d, s, hm, hs, h => by
    have ih := specAdd_ev v m (putB d s ((V64 v).testBit m)) (s + 1) (by omega) (by omega) (putB_fine _ h)
    have e : ((m + 1 : Nat) : Int) - 1 = (m : Int) := by omega
    rw [e]
    refine ev_succ ?_
    simp only [spec_l1Add.l0]
    rw [wu64 (x := (m : Int)) (by omega) (by omega)]
    simp only [if_pos (show (m : Int) ≥ 0 by omega), if_pos (show (0 : Int) ≤ (m : Int) by omega), bit_of v m (by omega)]
    rw [show wrap64 (if (V64 v).testBit m = true then 1 else 0) = (if (V64 v).testBit m = true then 1 else 0) by split <;> exact w64 (by decide) (by decide), w64 (x := (m : Int) - 1) (by omega) (by omega)]
    refine Ev.bind (put_ev d s _ h (by omega)) ?_
    simp only [addB]
    rw [show s + (m + 1) = s + 1 + m by omega]
    exact ih
theorem implAdd_ev (v : Int) : ∀ (m : Nat) (d : List Int) (s : Nat), m ≤ 64 → s + m ≤ 1000000 → Fine d s → Ev (fun k => impl_AddBits.l0 k v ((m : Int) - 1) d (s : Int)) (addB d s (V64 v) m, ((s + m : Nat) : Int))
  | 0, d, s, _, _, _ => ev_succ (ev_now fun k => by simp [impl_AddBits.l0, addB])
  | m + 1, d, s, hm, hs, h => by
    have ih := implAdd_ev v m (putB d s ((V64 v).testBit m)) (s + 1) (by omega) (by omega) (putB_fine _ h)
    have hl := h.len
    have hx := ext_len h
    have hw : wrap64 ((s : Int) + 1) = ((s + 1 : Nat) : Int) := by rw [w64 (by omega) (by omega)]; omega
    have hg : rd (ext d s) ((s / 8 : Nat) : Int) = (d.getD (s / 8) 0) := by unfold rd; rw [Int.toNat_natCast]; exact ext_getD d s _
    have hb := byt_getD h.byt (s / 8)
    have e : ((m + 1 : Nat) : Int) - 1 = (m : Int) := by omega
    rw [e]
    have hj : Ev (fun k => impl_AddBits.j2 k v (m : Int) (ext d s) (s : Int)) (addB d s (V64 v) (m + 1), ((s + (m + 1) : Nat) : Int)) := by
      refine ev_succ ?_
      simp only [impl_AddBits.j2, d8 s (by omega), t8, hw, bit_of v m (by omega), if_pos (show (0 : Int) ≤ (m : Int) by omega)]
      rw [w64 (x := (m : Int) - 1) (by omega) (by omega)]
      simp only [addB]
      rw [show s + (m + 1) = s + 1 + m by omega]
      cases hbit : (V64 v).testBit m with
      | false =>
        rw [hbit] at ih
        simp only [Bool.false_eq_true, if_false, if_neg (show ¬ (0 : Int) = 1 by decide)]
        simp only [putB, Bool.false_eq_true, if_false] at ih ⊢
        exact ih
      | true =>
        rw [hbit] at ih
        simp only [if_true]
        simp only [if_pos (show (0 : Int) ≤ ((s / 8 : Nat) : Int) by omega), if_pos (show ((s / 8 : Nat) : Int) < ((ext d s).length : Int) by omega), if_pos (show (0 : Int) ≤ ((s % 8 : Nat) : Int) by omega), hg, shr128 _ (show s % 8 < 8 by omega), or_u8 _ hb.1 hb.2, Int.toNat_natCast]
        simp only [putB, if_true] at ih ⊢
        exact ih
    refine ev_succ ?_
    simp only [impl_AddBits.l0, if_pos (show (m : Int) ≥ 0 by omega), t8]
    by_cases h8 : s % 8 = 0
    · have e : ext d s = d ++ [0] := by unfold ext; rw [if_pos h8]
      rw [e] at hj
      simp only [if_pos (show ((s % 8 : Nat) : Int) = 0 by omega), if_pos (show d.length < 140737488355328 by omega)]
      exact hj
    · have e : ext d s = d := by unfold ext; rw [if_neg h8]
      rw [e] at hj
      simp only [if_neg (show ¬ ((s % 8 : Nat) : Int) = 0 by omega)]
      exact hj
/-! ### good bits -/
theorem and1 (n : Nat) (h : n < 2 ^ 62) : Go.bits .and .i64 (n : Int) 1 = ((n % 2 : Nat) : Int) := by
  have h2 := (bits_nat .i64 62 (by decide) (fun n h0 h1 => by
    rw [IntKind.wrap_i64]
    have : (2 : Int) ^ 62 = 4611686018427387904 := by decide
    omega) n 1 h (by decide)).1
  rw [Nat.and_one_is_mod] at h2
  exact h2
theorem and1u8 (n : Nat) (h : n < 256) : Go.bits .and .u8 (n : Int) 1 = ((n % 2 : Nat) : Int) := by
  have h2 := (bits_nat .u8 8 (by decide) wraps_u8 n 1 h (by decide)).1
  rw [Nat.and_one_is_mod] at h2
  exact h2
theorem w64n (n : Nat) (h : n ≤ 9223372036854775807) : wrap64 (n : Int) = n := w64 (by omega) (by omega)
def bitN (b : Bool) : Nat := if b = true then 1 else 0
theorem bitN_lt (b : Bool) : bitN b < 2 := by cases b <;> decide
theorem bit_mod (n k : Nat) : n / 2 ^ k % 2 = bitN (n.testBit k) := by
  rw [Nat.testBit_eq_decide_div_mod_eq]
  have := Nat.mod_two_eq_zero_or_one (n / 2 ^ k)
  rcases this with h | h <;> simp [h, bitN]
theorem shr_u8 (x : Int) (h0 : 0 ≤ x) (r : Nat) (h : r ≤ 7) : shr .u8 x (r : Int) = ((x.toNat / 2 ^ r : Nat) : Int) := by
  obtain ⟨n, rfl⟩ := Int.eq_ofNat_of_zero_le h0
  unfold shr
  rw [Int.toNat_natCast, Int.toNat_natCast, Nat.min_eq_left (show r ≤ IntKind.u8.bits by simp [IntKind.bits]; omega)]
  simp
theorem rd_byte (d : List Int) (i : Nat) : rd d ((i / 8 : Nat) : Int) = d.getD (i / 8) 0 := by unfold rd; rw [Int.toNat_natCast]
theorem seven (i : Nat) : wrap64 (7 - ((i % 8 : Nat) : Int)) = ((7 - i % 8 : Nat) : Int) := by rw [w64 (by omega) (by omega)]; omega
theorem specBit_f (d : List Int) (s : Int) (i : Nat) (h : Byt d) (hi : i < 8 * d.length) (hl : d.length ≤ 1000000) : spec_l1Bit.f d s (i : Int) = some ((bitN (B d i) : Nat) : Int) := by
  have hb := byt_getD h (i / 8)
  unfold spec_l1Bit.f
  rw [d8 i (by omega), t8, seven, if_pos (by omega), if_pos (by omega), wu64 (by omega) (by omega), if_pos (by omega), rd_byte, shr_u8 _ hb.1 _ (by omega)]
  have e62 : (2 : Nat) ^ 62 = 4611686018427387904 := by decide
  have hq : (d.getD (i / 8) 0).toNat / 2 ^ (7 - i % 8) < 2 ^ 62 := Nat.lt_of_le_of_lt (Nat.div_le_self _ _) (by rw [e62]; omega)
  have hq2 : (d.getD (i / 8) 0).toNat / 2 ^ (7 - i % 8) ≤ 255 := Nat.le_trans (Nat.div_le_self _ _) (by omega)
  rw [w64n _ (Nat.le_trans hq2 (by decide)), and1 _ hq, bit_mod]
  rfl
theorem specGood_loop (d : List Int) (s : Int) (h : Byt d) (hl : d.length ≤ 1000000) : ∀ i, i ≤ 8 * d.length → Ev (fun k => spec_GoodBits.l0 k (i : Int) d s) (allFrom (fun j => !B d j) (8 * d.length) i) := by
  have e8 : wrap64 (8 * (d.length : Int)) = ((8 * d.length : Nat) : Int) := by rw [w64 (by omega) (by omega)]; omega
  refine down ?_ ?_
  · rw [allFrom_end]
    refine ev_succ (ev_now fun k => ?_)
    simp only [spec_GoodBits.l0, e8, Int.lt_irrefl, if_false]
  · intro i hi ih
    rw [allFrom_step hi]
    refine ev_succ ?_
    simp only [spec_GoodBits.l0, e8, if_pos (show (i : Int) < ((8 * d.length : Nat) : Int) by omega), specBit_f d s i h hi hl, Option.bind_some]
    rw [show wrap64 ((i : Int) + 1) = ((i + 1 : Nat) : Int) from w64_succ (n := 8 * d.length) hi (by omega)]
    cases hb : B d i with
    | true =>
      simp only [bitN, if_true, Bool.not_true, Bool.false_and, if_neg (show ¬ (((1 : Nat) : Int) = 0) by decide)]
      exact Ev.now _
    | false =>
      simp only [bitN, Bool.false_eq_true, if_false, Bool.not_false, Bool.true_and, if_pos (show (((0 : Nat) : Int) = 0) by decide)]
      exact ih
theorem sev (s : Int) (h0 : 0 ≤ s) (h1 : s ≤ 80000) : wrap64 (Int.tdiv (wrap64 (s + 7)) 8) = (s + 7) / 8 := by
  rw [w64 (x := s + 7) (by omega) (by omega), Int.tdiv_eq_ediv_of_nonneg (by omega), w64 (by omega) (by omega)]
theorem specGood_ev (d : List Int) (s : Int) (h : Byt d) (hl : d.length ≤ 1000000) : ∃ b : Bool, (b = true ↔ ∃ n : Nat, s = n ∧ n ≤ 80000 ∧ Fine d n) ∧ Ev (fun k => spec_GoodBits.f k d s) b := by
  have j1 : Ev (fun k => spec_GoodBits.j0 k true d s) false := ev_succ (ev_now fun k => by simp [spec_GoodBits.j0])
  unfold spec_GoodBits.f
  by_cases h0 : s < 0
  · simp only [if_pos h0]
    exact ⟨false, ⟨fun e => (by cases e), fun ⟨n, e, _⟩ => by omega⟩, j1⟩
  · simp only [if_neg h0]
    by_cases h1 : s > 80000
    · simp only [if_pos h1]
      exact ⟨false, ⟨fun e => (by cases e), fun ⟨n, e, _⟩ => by omega⟩, j1⟩
    · simp only [if_neg h1, sev s (by omega) (by omega)]
      obtain ⟨n, rfl⟩ := Int.eq_ofNat_of_zero_le (show 0 ≤ s by omega)
      by_cases h2 : (d.length : Int) = ((n : Int) + 7) / 8
      · have e2 : ((d.length : Int) != ((n : Int) + 7) / 8) = false := bne_eq_false_iff_eq.2 h2
        simp only [e2]
        refine ⟨allFrom (fun j => !B d j) (8 * d.length) n, ?_, ev_succ ?_⟩
        · rw [allFrom_iff]
          constructor
          · intro ha
            refine ⟨n, rfl, by omega, by omega, h, fun i hi => ?_⟩
            by_cases hi2 : i < 8 * d.length
            · simpa using ha i hi hi2
            · exact B_beyond (by omega)
          · rintro ⟨m, e, _, hf⟩ j hj _
            have := hf.off j (by omega)
            simp [this]
        · simp only [spec_GoodBits.j0, Bool.false_eq_true, if_false]
          exact specGood_loop d _ h hl n (by omega)
      · have e2 : ((d.length : Int) != ((n : Int) + 7) / 8) = true := bne_iff_ne.2 h2
        simp only [e2]
        refine ⟨false, ⟨fun e => (by cases e), fun ⟨m, e, _, hf⟩ => ?_⟩, j1⟩
        have := hf.len
        omega
theorem low_bits (x r : Nat) (h : 0 < r) (hr : r < 8) (hx : x < 256) : (x * 2 ^ r) % 256 = 0 ↔ ∀ j, j < 8 - r → x.testBit j = false := by
  have h1 : (x * 2 ^ r) % 256 = 0 ↔ x % 2 ^ (8 - r) = 0 := by
    have : r = 1 ∨ r = 2 ∨ r = 3 ∨ r = 4 ∨ r = 5 ∨ r = 6 ∨ r = 7 := by omega
    rcases this with rfl | rfl | rfl | rfl | rfl | rfl | rfl <;> simp <;> omega
  rw [h1]
  constructor
  · intro h2 j hj
    have := Nat.testBit_mod_two_pow x (8 - r) j
    rw [h2] at this
    simpa [hj] using this.symm
  · intro h2
    refine Nat.eq_of_testBit_eq fun j => ?_
    rw [Nat.testBit_mod_two_pow]
    by_cases hj : j < 8 - r
    · simp [h2 j hj]
    · simp [hj]
theorem implGood_ev (d : List Int) (s : Int) (h : Byt d) (hl : d.length ≤ 1000000) : ∃ b : Bool, (b = true ↔ ∃ n : Nat, s = n ∧ n ≤ 80000 ∧ Fine d n) ∧ Ev (fun k => impl_GoodBits.f k d s) b := by
  have j1 : Ev (fun k => impl_GoodBits.j0 k true d s) false := ev_succ (ev_now fun k => by simp [impl_GoodBits.j0])
  unfold impl_GoodBits.f
  by_cases h0 : s < 0
  · simp only [if_pos h0]
    exact ⟨false, ⟨fun e => (by cases e), fun ⟨n, e, _⟩ => by omega⟩, j1⟩
  · simp only [if_neg h0]
    by_cases h1 : s > 80000
    · simp only [if_pos h1]
      exact ⟨false, ⟨fun e => (by cases e), fun ⟨n, e, _⟩ => by omega⟩, j1⟩
    · simp only [if_neg h1, sev s (by omega) (by omega)]
      obtain ⟨n, rfl⟩ := Int.eq_ofNat_of_zero_le (show 0 ≤ s by omega)
      by_cases h2 : (d.length : Int) = ((n : Int) + 7) / 8
      · have e2 : ((d.length : Int) != ((n : Int) + 7) / 8) = false := bne_eq_false_iff_eq.2 h2
        simp only [e2]
        by_cases h8 : n % 8 = 0
        · refine ⟨true, ⟨fun _ => ⟨n, rfl, by omega, by omega, h, fun i hi => B_beyond (by omega)⟩, fun _ => rfl⟩, ev_succ (ev_now fun k => ?_)⟩
          simp only [impl_GoodBits.j0, Bool.false_eq_true, if_false, t8, if_pos (show ((n % 8 : Nat) : Int) = 0 by omega)]
        · have hlen : d.length = n / 8 + 1 := by omega
          have hw : wrap64 ((d.length : Int) - 1) = ((n / 8 : Nat) : Int) := by rw [w64 (by omega) (by omega)]; omega
          have hb := byt_getD h (n / 8)
          have hs : shl .u8 (d.getD (n / 8) 0) ((n % 8 : Nat) : Int) = (((d.getD (n / 8) 0).toNat * 2 ^ (n % 8) % 256 : Nat) : Int) := by
            unfold shl
            rw [Int.toNat_natCast, Nat.min_eq_left (show n % 8 ≤ IntKind.u8.bits by simp [IntKind.bits]; omega), IntKind.wrap_u8]
            have e : (d.getD (n / 8) 0) = (((d.getD (n / 8) 0).toNat : Nat) : Int) := by omega
            conv => lhs; rw [e]
            simp
          refine ⟨(shl .u8 (d.getD (n / 8) 0) ((n % 8 : Nat) : Int) == 0), ?_, ev_succ (ev_now fun k => ?_)⟩
          · rw [beq_iff_eq, hs]
            have hz : ((((d.getD (n / 8) 0).toNat * 2 ^ (n % 8) % 256 : Nat) : Int) = 0) ↔ ∀ j, j < 8 - n % 8 → (d.getD (n / 8) 0).toNat.testBit j = false := by
              rw [← low_bits _ _ (by omega) (by omega) (by omega)]
              omega
            rw [hz]
            constructor
            · intro ha
              refine ⟨n, rfl, by omega, by omega, h, fun i hi => ?_⟩
              by_cases hi2 : i < 8 * d.length
              · have e : i / 8 = n / 8 := by omega
                unfold B byte
                rw [e]
                exact ha _ (by omega)
              · exact B_beyond (by omega)
            · rintro ⟨m, e, _, hf⟩ j hj
              obtain rfl : n = m := by omega
              have := hf.off (8 * (n / 8) + (7 - j)) (by omega)
              unfold B byte at this
              rw [show (8 * (n / 8) + (7 - j)) / 8 = n / 8 by omega, show 7 - (8 * (n / 8) + (7 - j)) % 8 = j by omega] at this
              exact this
          · simp only [impl_GoodBits.j0, Bool.false_eq_true, if_false, t8, if_neg (show ¬ ((n % 8 : Nat) : Int) = 0 by omega), hw]
            rw [if_pos (by omega), if_pos (by omega), if_pos (by omega), rd_byte]
      · have e2 : ((d.length : Int) != ((n : Int) + 7) / 8) = true := bne_iff_ne.2 h2
        simp only [e2]
        refine ⟨false, ⟨fun e => (by cases e), fun ⟨m, e, _, hf⟩ => ?_⟩, j1⟩
        have := hf.len
        omega
/-! ### taking -/
def valB (d : List Int) (at_ : Nat) : Nat → Nat
  | 0 => 0
  | m + 1 => 2 * valB d at_ m + bitN (B d (at_ + m))
theorem valB_lt (d : List Int) (at_ : Nat) : ∀ m, valB d at_ m < 2 ^ m
  | 0 => by simp [valB]
  | m + 1 => by
    have := valB_lt d at_ m
    have := bitN_lt (B d (at_ + m))
    simp only [valB, Nat.pow_succ]
    omega
theorem valB_of (d : List Int) (at_ V n : Nat) (h : ∀ i, i < n → B d (at_ + i) = V.testBit (n - 1 - i)) : ∀ m, m ≤ n → valB d at_ m = V / 2 ^ (n - m) % 2 ^ m
  | 0, _ => by simp [valB, Nat.mod_one]
  | m + 1, hm => by
    have ih := valB_of d at_ V n h m (by omega)
    have e : V / 2 ^ (n - m) = V / 2 ^ (n - (m + 1)) / 2 := by
      rw [Nat.div_div_eq_div_mul, ← Nat.pow_succ, show (n - (m + 1)).succ = n - m by omega]
    simp only [valB]
    rw [ih, e, h m (by omega), ← bit_mod, show n - 1 - m = n - (m + 1) by omega, Nat.pow_succ, Nat.mul_comm (2 ^ m) 2, Nat.mod_mul]
    omega
theorem join1 (a b : Nat) (ha : a < 2 ^ 63) (hb : b < 2) : Go.bits .or .u64 (IntKind.u64.wrap ((a : Int) * 2)) (IntKind.u64.wrap (b : Int)) = ((2 * a + b : Nat) : Int) := by
  have e63 : (2 : Nat) ^ 63 = 9223372036854775808 := by decide
  rw [wu64 (x := (a : Int) * 2) (by omega) (by omega), wu64 (x := (b : Int)) (by omega) (by omega)]
  have := bits_join .u64 64 (by decide) wrapu 1 ((a : Int) * 2) (b : Int) (by omega) (by omega) (by rw [p64]; omega) (by omega) (by omega) (by rw [p64]; omega)
  rw [this]
  omega
theorem take_loop (d : List Int) (a n : Nat) (h : Byt d) (hn : n ≤ 64) (hl : d.length ≤ 1000000) (ha : a + n ≤ 8 * d.length) : ∀ m, m ≤ n → Ev (fun k => impl_takeBits.l0 k d (a : Int) (n : Int) ((valB d a m : Nat) : Int) ((a + m : Nat) : Int)) (wrap64 ((valB d a n : Nat) : Int)) := by
  have en : wrap64 ((a : Int) + (n : Int)) = ((a + n : Nat) : Int) := by rw [w64 (by omega) (by omega)]; omega
  refine down ?_ ?_
  · refine ev_succ (ev_now fun k => ?_)
    simp only [impl_takeBits.l0, en, Int.lt_irrefl, if_false]
  · intro m hm ih
    have hb := byt_getD h ((a + m) / 8)
    have hv := Nat.lt_of_lt_of_le (valB_lt d a m) (Nat.pow_le_pow_right (show 0 < 2 by decide) (show m ≤ 63 by omega))
    have hq : (d.getD ((a + m) / 8) 0).toNat / 2 ^ (7 - (a + m) % 8) < 256 := Nat.lt_of_le_of_lt (Nat.div_le_self _ _) (by omega)
    refine ev_succ ?_
    simp only [impl_takeBits.l0, en, if_pos (show ((a + m : Nat) : Int) < ((a + n : Nat) : Int) by omega), d8 (a + m) (by omega), t8, seven, if_pos (show (0 : Int) ≤ (((a + m) / 8 : Nat) : Int) by omega), if_pos (show (((a + m) / 8 : Nat) : Int) < (d.length : Int) by omega), if_pos (show (0 : Int) ≤ ((7 - (a + m) % 8 : Nat) : Int) by omega), rd_byte, shr_u8 _ hb.1 _ (show 7 - (a + m) % 8 ≤ 7 by omega), and1u8 _ hq, bit_mod]
    rw [join1 _ _ hv (bitN_lt _), show wrap64 (((a + m : Nat) : Int) + 1) = ((a + (m + 1) : Nat) : Int) by rw [w64 (by omega) (by omega)]; omega]
    exact ih
theorem take_ev (d : List Int) (s a n : Nat) (h : Fine d s) (hs : s ≤ 80000) (hn : n ≤ 64) (ha : a + n ≤ s) : Ev (fun k => impl_TakeBits.f k d (s : Int) (a : Int) (n : Int)) (wrap64 ((valB d a n : Nat) : Int), true) := by
  have hl := h.len
  obtain ⟨b, hb, he⟩ := implGood_ev d (s : Int) h.byt (by omega)
  have e := hb.2 ⟨s, rfl, hs, h⟩
  subst e
  have ht := take_loop d a n h.byt hn (by omega) (by omega) 0 (by omega)
  unfold impl_TakeBits.f
  refine Ev.bind he ?_
  simp only [if_true, if_neg (show ¬ (a : Int) < 0 by omega), if_neg (show ¬ (n : Int) < 0 by omega), if_neg (show ¬ (n : Int) > 64 by omega)]
  rw [w64 (x := (s : Int) - (n : Int)) (by omega) (by omega)]
  simp only [decide_eq_false (show ¬ (a : Int) > (s : Int) - (n : Int) by omega)]
  refine ev_succ ?_
  simp only [impl_TakeBits.j0, Bool.false_eq_true, if_false]
  exact Ev.bind (g := fun k => impl_takeBits.f k d (a : Int) (n : Int)) ht (Ev.now _)
theorem specTake1_ev (d : List Int) (s a : Nat) (h : Fine d s) (hs : s ≤ 80000) (ha : a + 1 ≤ s) : Ev (fun k => spec_TakeBits.f k d (s : Int) (a : Int) 1) (((bitN (B d a) : Nat) : Int), true) := by
  have hl := h.len
  obtain ⟨b, hb, he⟩ := specGood_ev d (s : Int) h.byt (by omega)
  have e := hb.2 ⟨s, rfl, hs, h⟩
  subst e
  have hbit := bitN_lt (B d a)
  have h0 : wrap64 ((a : Int) + 0) = (a : Int) := by rw [w64 (by omega) (by omega)]; omega
  have hj : Ev (fun k => spec_l1Take.l0 k (a : Int) 1 0 0 d (s : Int)) (((bitN (B d a) : Nat) : Int), true) := by
    refine ev_succ ?_
    simp only [spec_l1Take.l0, if_pos (show (0 : Int) < 1 by decide), h0, specBit_f d (s : Int) a h.byt (by omega) (by omega), Option.bind_some]
    have j := join1 0 (bitN (B d a)) (by decide) hbit
    rw [show (((0 : Nat) : Int) * 2) = 0 * 2 from rfl] at j
    rw [j]
    refine ev_succ (ev_now fun k => ?_)
    have w1 : wrap64 (0 + 1) = 1 := w64 (by decide) (by decide)
    simp only [spec_l1Take.l0, w1, Int.lt_irrefl, if_false, Nat.mul_zero, Nat.zero_add]
    rw [w64 (by omega) (by omega)]
  unfold spec_TakeBits.f
  refine Ev.bind he ?_
  simp only [if_true]
  have ht : Ev (fun k => spec_l1Take.f k d (s : Int) (a : Int) 1) (((bitN (B d a) : Nat) : Int), true) := by
    unfold spec_l1Take.f
    simp only [if_neg (show ¬ (a : Int) < 0 by omega), if_neg (show ¬ (1 : Int) < 0 by decide), if_neg (show ¬ (1 : Int) > 64 by decide), if_neg (show ¬ (a : Int) > (s : Int) by omega)]
    rw [w64 (x := (s : Int) - (a : Int)) (by omega) (by omega)]
    simp only [decide_eq_false (show ¬ (1 : Int) > (s : Int) - (a : Int) by omega)]
    refine ev_succ ?_
    simp only [spec_l1Take.j0, Bool.false_eq_true, if_false]
    exact hj
  exact Ev.bind ht (Ev.now _)
theorem rare_dr {l : List Int} (hl : Byt l) (s1 s2 n : Int) (n0 : 2 ≤ n) (n1 : n ≤ 60000) (h0 : 0 ≤ s1) (h1 : s1 + 4 ≤ lim) : Dr (fun r => 0 ≤ r ∧ r < n) 4 s1 fun k => spec_l1Cur_rare.f k l s1 s2 n := by
  unfold spec_l1Cur_rare.f
  refine Dr.mono (n := 2 + 2) ?_ (fun _ h => h) (by omega)
  refine Dr.bind (one_dr hl s1 s2 8 h0 (by omega)) fun c a1 a2 _ g0 g1 => ?_
  refine Dr.ite (fun _ => ?_) fun _ => Dr.now (by omega) g0 (by first | omega | (dsimp only; omega))
  have e : wrap64 (n - 1) = n - 1 := w64 (by omega) (by omega)
  rw [e]
  refine Dr.mono (Dr.bind (n := 2) (m := 0) (pick_dr hl a1 a2 (n - 1) g0 (by omega)) fun y b1 b2 hy g2 g3 => ?_) (fun _ h => h) (by omega)
  have hy2 := hy.2.1 (by omega)
  rw [w64 (x := 1 + y) (by omega) (by omega)]
  exact Dr.now (by omega) g2 (by first | omega | (dsimp only; omega))
/-! ### what is drawn -/
def Rng (x : Int) : Prop := -9223372036854775808 ≤ x ∧ x ≤ 9223372036854775807
theorem wideR_loop {l : List Int} (hl : Byt l) : ∀ (n : Nat) (x i s1 s2 : Int), Rng x → i + n = 8 → 0 ≤ i → 0 ≤ s1 → s1 + n ≤ lim → Dr Rng n s1 fun k => spec_l1Cur_wide.l0 k x i l s1 s2 := by
  intro n
  induction n with
  | zero =>
    intro x i s1 s2 hx hi hi0 h0 h1
    refine Dr.succ ?_
    simp only [spec_l1Cur_wide.l0]
    exact Dr.ite (fun c => absurd c (by omega)) fun _ => Dr.now hx h0 (by first | omega | (dsimp only; omega))
  | succ n ih =>
    intro x i s1 s2 hx hi hi0 h0 h1
    refine Dr.succ ?_
    simp only [spec_l1Cur_wide.l0]
    refine Dr.ite (fun c => ?_) fun c => absurd c (by omega)
    refine Dr.mono (Dr.bind (n := 1) (m := n) (next_dr hl s1 s2 h0 (by omega)) fun a t1 t2 ha h2 h3 => ?_) (fun _ h => h) (by omega)
    have e : wrap64 (i + 1) = i + 1 := w64 (by omega) (by omega)
    simp only [e]
    exact ih _ _ _ _ (i64_range _) (by omega) (by omega) h2 (by omega)
theorem wideR_dr {l : List Int} (hl : Byt l) (s1 s2 : Int) (h0 : 0 ≤ s1) (h1 : s1 + 8 ≤ lim) : Dr Rng 8 s1 fun k => spec_l1Cur_wide.f k l s1 s2 := wideR_loop hl 8 0 0 s1 s2 (by unfold Rng; omega) (by omega) (by omega) h0 (by omega)
theorem shrR (x y : Int) (h : Rng x) : Rng (shr .i64 x y) := by
  unfold Rng at h ⊢
  unfold shr
  have hp : (1 : Int) ≤ 2 ^ min y.toNat IntKind.i64.bits := by
    have := Nat.two_pow_pos (min y.toNat IntKind.i64.bits)
    have e : ((2 : Int) ^ min y.toNat IntKind.i64.bits) = ((2 ^ min y.toNat IntKind.i64.bits : Nat) : Int) := by simp
    rw [e]
    omega
  generalize (2 : Int) ^ min y.toNat IntKind.i64.bits = p at hp
  by_cases h0 : 0 ≤ x
  · have a := Int.ediv_nonneg h0 (show 0 ≤ p by omega)
    have b := Int.ediv_le_self p h0
    omega
  · have a : x / p < 0 := Int.ediv_neg_of_neg_of_pos (by omega) (by omega)
    have b : x ≤ x / p := by
      rw [Int.le_ediv_iff_mul_le (by omega)]
      have h := Int.mul_le_mul_of_nonneg_left hp (show 0 ≤ -x by omega)
      rw [Int.neg_mul, Int.neg_mul, Int.mul_one] at h
      omega
    omega
theorem sizedR_dr {l : List Int} (hl : Byt l) (s1 s2 : Int) (h0 : 0 ≤ s1) (h1 : s1 + 16 ≤ lim) : Dr Rng 16 s1 fun k => spec_l1Cur_sized.f k l s1 s2 := by
  have hj : ∀ x t1 t2, Rng x → 0 ≤ t1 → t1 ≤ s1 + 14 → Dr Rng 2 t1 fun k => spec_l1Cur_sized.j0 k x l t1 t2 := by
    intro x t1 t2 hx h2 h3
    refine Dr.succ ?_
    simp only [spec_l1Cur_sized.j0]
    refine Dr.mono (Dr.bind (n := 2) (m := 0) (one_dr hl t1 t2 3 h2 (by omega)) fun a u1 u2 ha h4 h5 => ?_) (fun _ h => h) (by omega)
    exact Dr.ite (fun _ => Dr.now (w64_rng _) h4 (by first | omega | (dsimp only; omega))) fun _ => Dr.now hx h4 (by first | omega | (dsimp only; omega))
  have hw : ∀ a : Int, 0 ≤ a ∧ (1 ≤ (64 : Int) → a < 64) ∧ a ≤ 65535 → 0 ≤ IntKind.u64.wrap a := by
    intro a ha
    rw [wu64 (by omega) (by omega)]
    exact ha.1
  have small : ∀ a : Int, 0 ≤ a → a ≤ 65535 → Rng a := by intro a h2 h3; unfold Rng; omega
  unfold spec_l1Cur_sized.f
  refine Dr.mono (n := 2 + (2 + 12)) ?_ (fun _ h => h) (by omega)
  refine Dr.bind (pick_dr hl s1 s2 5 h0 (by omega)) fun n a1 a2 hn ha hb => ?_
  refine Dr.bind (pick_dr hl a1 a2 8 ha (by omega)) fun c b1 b2 _ hc hd => ?_
  refine Dr.ite (fun _ => ?_) fun _ => Dr.ite (fun _ => ?_) fun _ => Dr.ite (fun _ => ?_) fun _ => Dr.ite (fun _ => ?_) fun _ => ?_
  · exact Dr.mono (Dr.bind (pick_dr hl b1 b2 300 hc (by omega)) fun x u1 u2 hx he hf => hj _ _ _ (small x hx.1 hx.2.2) he (by omega)) (fun _ h => h) (by omega)
  · refine Dr.mono (Dr.bind (wideR_dr hl b1 b2 hc (by omega)) fun x u1 u2 hx he hf => Dr.bind (pick_dr hl u1 u2 64 he (by omega)) fun y v1 v2 hy hg hh => ?_) (fun _ h => h) (show 8 + (2 + 2) ≤ (12 : Int) by omega)
    exact Dr.ite (fun _ => hj _ _ _ (shrR _ _ hx) hg (by omega)) fun c => absurd (hw y hy) c
  · refine Dr.mono (Dr.bind (pick_dr hl b1 b2 64 hc (by omega)) fun y v1 v2 hy hg hh => ?_) (fun _ h => h) (show 2 + 2 ≤ (12 : Int) by omega)
    exact Dr.ite (fun _ => hj _ _ _ (i64_range _) hg (by omega)) fun c => absurd (hw y hy) c
  · refine Dr.mono (Dr.bind (pick_dr hl b1 b2 64 hc (by omega)) fun y v1 v2 hy hg hh => ?_) (fun _ h => h) (show 2 + 2 ≤ (12 : Int) by omega)
    exact Dr.ite (fun _ => hj _ _ _ (w64_rng _) hg (by omega)) fun c => absurd (hw y hy) c
  · exact Dr.mono (hj _ _ _ (small n hn.1 hn.2.2) hc (by omega)) (fun _ h => h) (by omega)
/-- Bits are drawn: p holds of them. -/
def Db (p : List Int → Int → Prop) (n s1 : Int) (g : Nat → Option (List Int × Int × Int × Int)) : Prop := ∃ d s t1 t2, p d s ∧ 0 ≤ t1 ∧ t1 ≤ s1 + n ∧ Ev g (d, s, t1, t2)
theorem specAdd_all (v : Int) (m s : Nat) (d : List Int) (hm : m ≤ 64) (hs : s + m ≤ 1000000) (h : Fine d s) (u : Int) (hu : u = (m : Int)) : ∃ D, Fine D (s + m) ∧ Ev (fun k => spec_l1Add.f k d (s : Int) v u) (D, ((s + m : Nat) : Int)) := by
  subst hu
  refine ⟨_, (addB_spec (V64 v) m d s h).1, ?_⟩
  have hA := specAdd_ev v m d s hm hs h
  unfold spec_l1Add.f
  rw [w64 (x := (m : Int) - 1) (by omega) (by omega)]
  exact hA
theorem bits_loop {l : List Int} (hl : Byt l) : ∀ (c : Nat) (d : List Int) (s : Nat) (s1 s2 : Int), Fine d s → s + 8 * c ≤ 1000 → 0 ≤ s1 → s1 + 3 * c ≤ 1000000 →
    Db (fun d' s' => ∃ n : Nat, s' = n ∧ n ≤ 1000 ∧ Fine d' n) (3 * c) s1 fun k => spec_l1Cur_bits.l0 k (c : Int) l s1 s2 d (s : Int) := by
  have hlim : lim = 4611686018427387904 := rfl
  intro c
  induction c with
  | zero =>
    intro d s s1 s2 hf hs h0 h1
    exact ⟨d, s, s1, s2, ⟨s, rfl, by omega, hf⟩, h0, by omega, ev_succ (ev_now fun k => by simp [spec_l1Cur_bits.l0])⟩
  | succ c ih =>
    intro d s s1 s2 hf hs h0 h1
    obtain ⟨a, a1, a2, ha, g0, g1, ge⟩ := next_dr hl s1 s2 h0 (by omega)
    obtain ⟨p, b1, b2, hp, i0, i1, ie⟩ := pick_dr hl a1 a2 8 g0 (by omega)
    have hp2 := hp.2.1 (by omega)
    have hp0 := hp.1
    obtain ⟨q, hq⟩ : ∃ q : Nat, p = q := ⟨p.toNat, by omega⟩
    obtain ⟨D, f1, hA⟩ := specAdd_all a (q + 1) s d (by omega) (by omega) hf (wrap64 (1 + p)) (by rw [w64 (by omega) (by omega)]; omega)
    obtain ⟨d', s', t1, t2, hd, j0, j1, je⟩ := ih D (s + (q + 1)) b1 b2 f1 (by omega) i0 (by omega)
    refine ⟨d', s', t1, t2, hd, j0, by omega, ev_succ ?_⟩
    have e2 : wrap64 (((c + 1 : Nat) : Int) - 1) = (c : Int) := by rw [w64 (by omega) (by omega)]; omega
    simp only [spec_l1Cur_bits.l0, if_pos (show ((c + 1 : Nat) : Int) > 0 by omega), e2]
    exact Ev.bind ge (Ev.bind ie (Ev.bind hA je))
/-- What is known of drawn bits: they may be good or not. -/
def Odd (d : List Int) (s : Int) : Prop := Byt d ∧ d.length ≤ 100000 ∧ -1000000 ≤ s ∧ s ≤ 1000000
theorem fine_nil : Fine [] 0 := ⟨rfl, fun x hx => (by cases hx), fun i _ => B_beyond (by simp)⟩
theorem bits_db {l : List Int} (hl : Byt l) : Db (fun d s => ∃ n : Nat, s = n ∧ n ≤ 1000 ∧ Fine d n) 100 0 fun k => spec_l1Cur_bits.f k l 0 0 12 := by
  have hlim : lim = 4611686018427387904 := rfl
  obtain ⟨p, b1, b2, hp, i0, i1, ie⟩ := pick_dr hl 0 0 12 (by omega) (by omega)
  have hp2 := hp.2.1 (by omega)
  have hp0 := hp.1
  obtain ⟨q, rfl⟩ : ∃ q : Nat, p = q := ⟨p.toNat, by omega⟩
  obtain ⟨d', s', t1, t2, hd, j0, j1, je⟩ := bits_loop hl q [] 0 b1 b2 fine_nil (by omega) i0 (by omega)
  exact ⟨d', s', t1, t2, hd, j0, by omega, Ev.bind ie je⟩
theorem odd_db {l : List Int} (hl : Byt l) (d : List Int) (s s1 s2 : Int) (hd : Byt d) (hlen : d.length ≤ 1000) (hs0 : 0 ≤ s) (hs : s ≤ 1000) (h0 : 0 ≤ s1) (h1 : s1 ≤ 1000000) : Db Odd 100 s1 fun k => spec_l1Cur_oddBits.f k l s1 s2 d s := by
  have hlim : lim = 4611686018427387904 := rfl
  obtain ⟨p, b1, b2, hp, i0, i1, ie⟩ := pick_dr hl s1 s2 16 h0 (by omega)
  have fin : ∀ (d' : List Int) (s' : Int), Odd d' s' → ∀ (f : Int × Int × Int → Option (List Int × Int × Int × Int)), f (p, b1, b2) = some (d', s', b1, b2) → Db Odd 100 s1 fun k => (spec_l1Cur_pick.f k l s1 s2 16).bind f :=
    fun d' s' ho f hf => ⟨d', s', b1, b2, ho, i0, by omega, Ev.bind ie (by rw [hf]; exact Ev.now _)⟩
  have hsame : Odd d s := ⟨hd, by omega, by omega, by omega⟩
  unfold spec_l1Cur_oddBits.f
  by_cases c0 : p = 0
  · exact fin d (wrap64 (s + 1)) ⟨hd, by omega, by rw [w64 (by omega) (by omega)]; omega, by rw [w64 (by omega) (by omega)]; omega⟩ _ (by simp only [if_pos c0])
  · by_cases c1 : p = 1
    · exact fin d (wrap64 (s - 1)) ⟨hd, by omega, by rw [w64 (by omega) (by omega)]; omega, by rw [w64 (by omega) (by omega)]; omega⟩ _ (by simp only [if_neg c0, if_pos c1])
    · by_cases c2 : p = 2
      · refine fin (d ++ [0]) s ⟨fun x hx => ?_, by simp; omega, by omega, by omega⟩ _ (by simp only [if_neg c0, if_neg c1, if_pos c2, if_pos (show d.length < 140737488355328 by omega)])
        rcases List.mem_append.1 hx with h2 | h2
        · exact hd x h2
        · simp at h2; omega
      · by_cases c3 : p = 3
        · by_cases c4 : (d.length : Int) > 0
          · have e : wrap64 ((d.length : Int) - 1) = ((d.length - 1 : Nat) : Int) := by rw [w64 (by omega) (by omega)]; omega
            have hb := byt_getD hd (d.length - 1)
            have hr : rd d ((d.length - 1 : Nat) : Int) = d.getD (d.length - 1) 0 := by unfold rd; rw [Int.toNat_natCast]
            have ho := or_u8 _ hb.1 hb.2 7
            have e7 : ((2 ^ (7 - 7) : Nat) : Int) = 1 := rfl
            rw [e7] at ho
            refine fin (d.set (d.length - 1) (((d.getD (d.length - 1) 0).toNat ||| 2 ^ (7 - 7) : Nat) : Int)) s ⟨fun x hx => ?_, by simp; omega, by omega, by omega⟩ _ (by simp only [if_neg c0, if_neg c1, if_neg c2, if_pos c3, if_pos c4, e, if_pos (show (0 : Int) ≤ ((d.length - 1 : Nat) : Int) by omega), if_pos (show ((d.length - 1 : Nat) : Int) < (d.length : Int) by omega), hr, ho, Int.toNat_natCast])
            rcases List.mem_or_eq_of_mem_set hx with h2 | h2
            · exact hd x h2
            · subst h2
              have e8 : (2 : Nat) ^ 8 = 256 := by decide
              have := Nat.or_lt_two_pow (n := 8) (show (d.getD (d.length - 1) 0).toNat < 2 ^ 8 by rw [e8]; omega) (pow7 7)
              omega
          · exact fin d s hsame _ (by simp only [if_neg c0, if_neg c1, if_neg c2, if_pos c3, if_neg c4])
        · by_cases c5 : p = 4
          · exact fin d (-8) ⟨hd, by omega, by omega, by omega⟩ _ (by simp only [if_neg c0, if_neg c1, if_neg c2, if_neg c3, if_pos c5])
          · exact fin d s hsame _ (by simp only [if_neg c0, if_neg c1, if_neg c2, if_neg c3, if_neg c5])
theorem full_db {l : List Int} (hl : Byt l) (s1 s2 : Int) (h0 : 0 ≤ s1) (h1 : s1 ≤ 1000000) : Db Odd 100 s1 fun k => spec_l1Cur_fullBits.f k l s1 s2 := by
  have hlim : lim = 4611686018427387904 := rfl
  obtain ⟨p, b1, b2, hp, i0, i1, ie⟩ := pick_dr hl s1 s2 72 h0 (by omega)
  have hp2 := hp.2.1 (by omega)
  have e1 : wrap64 (79930 + p) = 79930 + p := w64 (by omega) (by omega)
  refine ⟨List.replicate ((79930 + p + 7) / 8).toNat 0, 79930 + p, b1, b2, ⟨fun x hx => ?_, by simp; omega, by omega, by omega⟩, i0, by omega, Ev.bind ie ?_⟩
  · have h := List.eq_of_mem_replicate hx
    subst h
    exact ⟨Int.le_refl _, by decide⟩
  · simp only [e1]
    rw [w64 (x := 79930 + p + 7) (by omega) (by omega), Int.tdiv_eq_ediv_of_nonneg (by omega), w64 (by omega) (by omega)]
    simp only [if_pos (show 0 ≤ (79930 + p + 7) / 8 by omega), if_pos (show ((79930 + p + 7) / 8).toNat ≤ 281474976710656 by omega)]
    exact Ev.now _
theorem draw_ev {l : List Int} (hl : Byt l) : ∃ d s v n, Odd d s ∧ Rng v ∧ -1 ≤ n ∧ n ≤ 65 ∧ Ev (fun k => spec_DrawAddBits.f k l) (d, s, v, n) := by
  have hlim : lim = 4611686018427387904 := rfl
  have hj : ∀ d s s1 s2, Odd d s → 0 ≤ s1 → s1 ≤ 1000000 → ∃ v n, Rng v ∧ -1 ≤ n ∧ n ≤ 65 ∧ Ev (fun k => spec_DrawAddBits.j0 k l s1 s2 d s) (d, s, v, n) := by
    intro d s s1 s2 ho h0 h1
    obtain ⟨v, a1, a2, hv, g0, g1, ge⟩ := sizedR_dr hl s1 s2 h0 (by omega)
    obtain ⟨p, b1, b2, hp, i0, i1, ie⟩ := pick_dr hl a1 a2 20 g0 (by omega)
    have hp2 := hp.2.1 (by omega)
    have hp1 := hp.1
    obtain ⟨r, c1, c2, hr, j0, j1, je⟩ := rare_dr hl b1 b2 6 (by omega) (by omega) i0 (by omega)
    have hn : -1 ≤ rd [p, 64, 63, 65, -1, 0] r ∧ rd [p, 64, 63, 65, -1, 0] r ≤ 65 := by
      have : r = 0 ∨ r = 1 ∨ r = 2 ∨ r = 3 ∨ r = 4 ∨ r = 5 := by omega
      rcases this with rfl | rfl | rfl | rfl | rfl | rfl <;> simp [rd] <;> omega
    refine ⟨v, _, hv, hn.1, hn.2, ev_succ ?_⟩
    simp only [spec_DrawAddBits.j0, Option.bind_some]
    refine Ev.bind ge (Ev.bind ie (Ev.bind je ?_))
    simp only [if_pos hr.1, if_pos (show r < (([p, 64, 63, 65, -1, 0] : List Int).length : Int) by simp; omega)]
    exact Ev.now _
  obtain ⟨d, s, t1, t2, ⟨n, rfl, hn, hf⟩, g0, g1, ge⟩ := bits_db hl
  have hlen := hf.len
  obtain ⟨d1, s1, u1, u2, ho, i0, i1, ie⟩ := odd_db hl d (n : Int) t1 t2 hf.byt (by omega) (by omega) (by omega) g0 (by omega)
  obtain ⟨o, v1, v2, _, j0, j1, je⟩ := one_dr hl u1 u2 20 i0 (by omega)
  unfold spec_DrawAddBits.f
  cases o with
  | true =>
    obtain ⟨d2, s2, x1, x2, ho2, k0, k1, ke⟩ := full_db hl v1 v2 j0 (by omega)
    obtain ⟨v, m, q2, q3, q4, q5⟩ := hj d2 s2 x1 x2 ho2 k0 (by omega)
    refine ⟨d2, s2, v, m, ho2, q2, q3, q4, Ev.bind ge (Ev.bind ie (Ev.bind je ?_))⟩
    simp only [if_true]
    exact Ev.bind ke q5
  | false =>
    obtain ⟨v, m, q2, q3, q4, q5⟩ := hj d1 s1 v1 v2 ho j0 (by omega)
    refine ⟨d1, s1, v, m, ho, q2, q3, q4, Ev.bind ge (Ev.bind ie (Ev.bind je ?_))⟩
    simp only [Bool.false_eq_true, if_false]
    exact q5
/-! ### the law -/
theorem want_f (v : Int) (n : Nat) (hn : n < 64) : Go.bits .and .i64 v (wrap64 (shl .i64 1 (n : Int) - 1)) = wrap64 ((V64 v % 2 ^ n : Nat) : Int) := by
  have hp : (1 : Int) ≤ 2 ^ n ∧ (2 : Int) ^ n ≤ 9223372036854775808 := by
    have a := Nat.two_pow_pos n
    have b : 2 ^ n ≤ 2 ^ 63 := Nat.pow_le_pow_right (by decide) (by omega)
    have e : ((2 : Int) ^ n) = ((2 ^ n : Nat) : Int) := by simp
    have e63 : (2 : Nat) ^ 63 = 9223372036854775808 := by decide
    rw [e]
    omega
  have hs : wrap64 (shl .i64 1 (n : Int) - 1) = ((2 ^ n - 1 : Nat) : Int) := by
    have e : ((2 ^ n - 1 : Nat) : Int) = (2 : Int) ^ n - 1 := by rw [Int.natCast_sub (Nat.two_pow_pos n)]; simp
    unfold shl
    rw [Int.toNat_natCast, Nat.min_eq_left (show n ≤ IntKind.i64.bits by simp [IntKind.bits]; omega), e, Int.one_mul, IntKind.wrap_i64]
    generalize (2 : Int) ^ n = p at hp
    unfold wrap64
    omega
  have hw : ∀ x : Int, IntKind.i64.wrap x = wrap64 x := by
    intro x
    rw [IntKind.wrap_i64]
    unfold wrap64
    omega
  have hlt : 2 ^ n - 1 < 2 ^ 64 := Nat.lt_of_le_of_lt (Nat.sub_le _ _) (Nat.pow_lt_pow_right (by decide) hn)
  rw [hs]
  have hV : (BitVec.ofInt 64 v).toNat = V64 v := by
    have h : IntKind.u64.wrap v = v % 18446744073709551616 := by simp [IntKind.wrap, IntKind.bits, IntKind.signed]
    unfold V64
    rw [BitVec.toNat_ofInt, h]
    rfl
  show IntKind.i64.wrap (((BitVec.ofInt 64 v &&& BitVec.ofInt 64 ((2 ^ n - 1 : Nat) : Int)).toNat : Nat) : Int) = _
  rw [hw, BitVec.toNat_and, hV, BitVec.ofInt_natCast, BitVec.toNat_ofNat, Nat.mod_eq_of_lt hlt, Nat.and_two_pow_sub_one_eq_mod]
theorem law_loop (d x : List Int) (s n : Nat) (hd : Fine d s) (hx : Fine x (s + n)) (hs : s + n ≤ 80000) (hsame : ∀ i, i < s → B x i = B d i) : ∀ i, i ≤ s → Ev (fun k => laws_FnBits.l0 k (i : Int) d (s : Int) x ((s + n : Nat) : Int)) true := by
  have stop : ∀ i : Int, Ev (fun k => laws_FnBits.j4 k i false d (s : Int) x ((s + n : Nat) : Int)) true := fun i => ev_succ (ev_now fun k => by simp [laws_FnBits.j4])
  refine down ?_ ?_
  · refine ev_succ ?_
    simp only [laws_FnBits.l0, Int.lt_irrefl, if_false]
    exact stop _
  · intro i hi ih
    refine ev_succ ?_
    simp only [laws_FnBits.l0, if_pos (show (i : Int) < (s : Int) by omega)]
    by_cases h2 : (i : Int) < 200
    · simp only [h2, decide_true]
      have t1 := take_ev x (s + n) i 1 hx hs (by omega) (by omega)
      have t2 := specTake1_ev d s i hd (by omega) (by omega)
      have e : wrap64 ((valB x i 1 : Nat) : Int) = ((bitN (B d i) : Nat) : Int) := by
        have hb := bitN_lt (B d i)
        have ev : valB x i 1 = bitN (B d i) := by simp only [valB, Nat.mul_zero, Nat.zero_add, Nat.add_zero, hsame i hi]
        rw [ev]
        exact w64n _ (by omega)
      refine ev_succ ?_
      simp only [laws_FnBits.j4, if_true]
      refine Ev.bind t1 (Ev.bind t2 ?_)
      simp only [e, if_true, Bool.not_true]
      refine ev_succ ?_
      simp only [laws_FnBits.j5, Bool.false_eq_true, if_false]
      rw [show wrap64 ((i : Int) + 1) = ((i + 1 : Nat) : Int) from w64_succ (n := s) hi (by omega)]
      exact ih
    · simp only [h2, decide_false]
      exact stop _

theorem FnBits : laws_FnBits.Pure := by
  intro l _ _ w
  refine Ev.rounds ?_
  have hl := byt_of w
  unfold laws_FnBits.f
  by_cases c : (l.length : Int) > 1048576
  · simp only [if_pos c]
    exact Ev.now _
  · simp only [if_neg c]
    obtain ⟨d, s, v, n, ⟨hd, hlen, hs0, hs1⟩, hv, hn0, hn1, he⟩ := draw_ev hl
    obtain ⟨b, hb, hsg⟩ := specGood_ev d s hd (by omega)
    obtain ⟨b', hb', hig⟩ := implGood_ev d s hd (by omega)
    obtain rfl : b' = b := by rw [Bool.eq_iff_iff, hb, hb']
    have wsn : wrap64 (s + n) = s + n := w64 (by omega) (by omega)
    -- where nothing is added
    have bad : Ev (fun k => laws_FnBits.j0 k v n true d s [] 0) true := ev_succ (ev_now fun k => by simp [laws_FnBits.j0])
    have badI : Ev (fun k => impl_AddBits.j0 k v n true d s) ([], 0) := ev_succ (ev_now fun k => by simp [impl_AddBits.j0])
    by_cases hok : b' = true ∧ 0 ≤ n ∧ n ≤ 64 ∧ s + n ≤ 80000
    · obtain ⟨rfl, k0, k1, k2⟩ := hok
      obtain ⟨m, rfl, hm, hf⟩ := hb.1 rfl
      obtain ⟨q, rfl⟩ := Int.eq_ofNat_of_zero_le k0
      obtain ⟨f1, f2, f3⟩ := addB_spec (V64 v) q d m hf
      have f4 := f1.len
      have hadd : Ev (fun k => impl_AddBits.f k d (m : Int) v (q : Int)) (addB d m (V64 v) q, ((m + q : Nat) : Int)) := by
        unfold impl_AddBits.f
        refine Ev.bind hig ?_
        simp only [if_true, if_neg (show ¬ (q : Int) < 0 by omega), if_neg (show ¬ (q : Int) > 64 by omega), wsn, decide_eq_false (show ¬ (m : Int) + (q : Int) > 80000 by omega)]
        refine ev_succ ?_
        have e9 : wrap64 ((d.length : Int) + 9) = (d.length : Int) + 9 := w64 (by omega) (by omega)
        simp only [impl_AddBits.j0, Bool.false_eq_true, if_false, e9, if_pos (show 0 ≤ (d.length : Int) + 9 by omega), if_pos (show ((d.length : Int) + 9).toNat ≤ 281474976710656 by omega), Option.bind_some, List.replicate_zero, List.length_nil, List.nil_append, if_pos (show 0 + d.length < 140737488355328 by omega)]
        rw [w64 (x := (q : Int) - 1) (by omega) (by omega)]
        exact implAdd_ev v q d m (by omega) (by omega) hf
      have hval : valB (addB d m (V64 v) q) m q = V64 v % 2 ^ q := by
        have := valB_of (addB d m (V64 v) q) m (V64 v) q f3 q (Nat.le_refl _)
        rw [this]
        simp
      have htake := take_ev (addB d m (V64 v) q) (m + q) m q f1 (by omega) (by omega) (Nat.le_refl _)
      rw [hval] at htake
      obtain ⟨b2, hb2, hg2⟩ := implGood_ev (addB d m (V64 v) q) ((m + q : Nat) : Int) f1.byt (by omega)
      have e2 := hb2.2 ⟨m + q, rfl, by omega, f1⟩
      subst e2
      have hj1 : ∀ want, want = wrap64 ((V64 v % 2 ^ q : Nat) : Int) → Ev (fun k => laws_FnBits.j1 k (q : Int) (wrap64 ((V64 v % 2 ^ q : Nat) : Int)) true want d (m : Int) (addB d m (V64 v) q) ((m + q : Nat) : Int)) true := by
        rintro want rfl
        refine ev_succ ?_
        simp only [laws_FnBits.j1, if_true, wsn, if_pos (show ((m + q : Nat) : Int) = (m : Int) + (q : Int) by omega)]
        refine Ev.bind hg2 ?_
        simp only [Bool.not_true]
        refine ev_succ ?_
        simp only [laws_FnBits.j2, Bool.false_eq_true, if_false]
        exact law_loop d _ m q hf f1 (by omega) f2 0 (Nat.zero_le _)
      refine Ev.bind he (Ev.bind hadd (Ev.bind hsg ?_))
      simp only [if_true, if_neg (show ¬ (q : Int) < 0 by omega), if_neg (show ¬ (q : Int) > 64 by omega), wsn, decide_eq_false (show ¬ (m : Int) + (q : Int) > 80000 by omega)]
      refine ev_succ ?_
      simp only [laws_FnBits.j0, Bool.false_eq_true, if_false]
      refine Ev.bind htake ?_
      by_cases h64 : (q : Int) < 64
      · rw [wu64 (x := (q : Int)) (by omega) (by omega)]
        simp only [if_pos h64, if_pos (show (0 : Int) ≤ (q : Int) by omega), want_f v q (by omega)]
        exact hj1 _ rfl
      · simp only [if_neg h64]
        refine hj1 _ ?_
        obtain rfl : q = 64 := by omega
        obtain ⟨e, hlt⟩ := V64_eq v
        have h : IntKind.u64.wrap v = v % 18446744073709551616 := by simp [IntKind.wrap, IntKind.bits, IntKind.signed]
        rw [Nat.mod_eq_of_lt hlt, ← e, h]
        unfold Rng at hv
        unfold wrap64
        omega
    · have hadd : Ev (fun k => impl_AddBits.f k d s v n) ([], 0) := by
        unfold impl_AddBits.f
        refine Ev.bind hig ?_
        cases b' with
        | false => simp only [Bool.false_eq_true, if_false]; exact badI
        | true =>
          simp only [if_true]
          by_cases k0 : n < 0
          · simp only [if_pos k0]; exact badI
          · simp only [if_neg k0]
            by_cases k1 : n > 64
            · simp only [if_pos k1]; exact badI
            · simp only [if_neg k1, wsn, decide_eq_true (show s + n > 80000 by
                refine Int.not_le.1 fun h => hok ⟨rfl, by omega, by omega, h⟩)]
              exact badI
      refine Ev.bind he (Ev.bind hadd (Ev.bind hsg ?_))
      cases b' with
      | false => simp only [Bool.false_eq_true, if_false]; exact bad
      | true =>
        simp only [if_true]
        by_cases k0 : n < 0
        · simp only [if_pos k0]; exact bad
        · simp only [if_neg k0]
          by_cases k1 : n > 64
          · simp only [if_pos k1]; exact bad
          · simp only [if_neg k1, wsn, decide_eq_true (show s + n > 80000 by
              refine Int.not_le.1 fun h => hok ⟨rfl, by omega, by omega, h⟩)]
            exact bad

end Go.Proofs.Ytppifefhpjhmaaa.Pure
