/- Patterns and matchers: what the program and the reference say of them. No condition beyond the lengths. -/
import Derived.Test.YtanilephcohjkaaGreatA6
import Derived.Test.YtanilephcohjkaaGreatG9
namespace Go.Ring
open Go Go.RowKit Go.Eager Go.Abs Go.Proofs
set_option maxRecDepth 100000
set_option linter.unusedVariables false
set_option linter.unusedSimpArgs false
def PcOk (x : Int) : Prop := x = -1 ∨ x = -2 ∨ 0 ≤ x ∧ x ≤ 255
def AltOk (N : Nat) (a : List Int) : Prop := a.length ≤ N ∧ ∀ x ∈ a, PcOk x
theorem pcOk_byte (c : UInt8) : PcOk (c.toNat : Int) := .inr (.inr ⟨by omega, by have := c.toNat_lt; omega⟩)
theorem altOk_snoc {N : Nat} {a : List Int} {x : Int} (h : AltOk N a) (hx : PcOk x) : AltOk (N + 1) (a ++ [x]) :=
  ⟨by simp; exact h.1, fun y hy => by rcases List.mem_append.1 hy with h1 | h1; exact h.2 y h1; simp at h1; subst h1; exact hx⟩
theorem altOk_mono {N M : Nat} {a : List Int} (h : AltOk N a) (hl : N ≤ M) : AltOk M a := ⟨Nat.le_trans h.1 hl, h.2⟩
theorem alts_ok (M : Nat) : ∀ (n : Nat) (l : List UInt8) (now : List Int) (out r : List (List Int)), l.length ≤ n → alts l now out = some r → now.length + l.length ≤ M → AltOk now.length now → (∀ a ∈ out, AltOk M a) → (∀ a ∈ r, AltOk M a) ∧ r.length ≤ out.length + l.length + 1
  | n, [], now, out, r, hn, h, hM, hnow, hout => by
    simp [alts] at h
    subst h
    refine ⟨fun a ha => ?_, by simp⟩
    rcases List.mem_append.1 ha with h1 | h1
    · exact hout a h1
    · simp at h1; subst h1; exact altOk_mono hnow (by simpa using hM)
  | 0, c :: l, _, _, _, hn, _, _, _, _ => by simp at hn
  | n + 1, c :: l, now, out, r, hn, h, hM, hnow, hout => by
    have hl : l.length ≤ n := by simpa using hn
    simp only [List.length_cons] at hM
    by_cases h1 : c = 124
    · subst h1
      rw [alts_bar] at h
      have := alts_ok M n l [] (out ++ [now]) r hl h (by simp; omega) ⟨by simp, by simp⟩ (fun a ha => by
        rcases List.mem_append.1 ha with h1 | h1
        · exact hout a h1
        · simp at h1; subst h1; exact altOk_mono hnow (by omega))
      exact ⟨this.1, by have := this.2; simp at this ⊢; omega⟩
    by_cases h2 : c = 42
    · subst h2
      rw [alts_star] at h
      have := alts_ok M n l (now ++ [-1]) out r hl h (by simp; omega) (by simpa using altOk_snoc hnow (.inl rfl)) hout
      exact ⟨this.1, by have := this.2; simp; omega⟩
    by_cases h3 : c = 63
    · subst h3
      rw [alts_any] at h
      have := alts_ok M n l (now ++ [-2]) out r hl h (by simp; omega) (by simpa using altOk_snoc hnow (.inr (.inl rfl))) hout
      exact ⟨this.1, by have := this.2; simp; omega⟩
    by_cases h4 : c = 92
    · subst h4
      cases l with
      | nil => rw [alts_esc0] at h; cases h
      | cons e l =>
        rw [alts_esc] at h
        split at h
        · have := alts_ok M n l (now ++ [(e.toNat : Int)]) out r (by simp at hl; omega) h (by simp at hM ⊢; omega) (by simpa using altOk_snoc hnow (pcOk_byte e)) hout
          exact ⟨this.1, by have := this.2; simp; omega⟩
        · cases h
    · rw [alts_byte _ _ _ h1 h2 h3 h4] at h
      have := alts_ok M n l (now ++ [(c.toNat : Int)]) out r hl h (by simp; omega) (by simpa using altOk_snoc hnow (pcOk_byte c)) hout
      exact ⟨this.1, by have := this.2; simp; omega⟩
theorem patG_ok {s : ByteArray} {out : List (List Int)} (h : patG s = some out) : (∀ a ∈ out, AltOk 100 a) ∧ out.length ≤ 101 := by
  unfold patG at h
  split at h
  · rename_i hp
    have hz : s.data.toList.length = s.size := by simp
    have := alts_ok 100 _ _ _ _ _ (Nat.le_refl _) h (by simp; omega) ⟨by simp, by simp⟩ (by simp)
    exact ⟨this.1, by have := this.2; simp at this; omega⟩
  · cases h
/-- A pattern stands for a text. -/
def patB (p s : ByteArray) : Bool := match patG p with | some out => out.any fun a => fit a s.data.toList | none => false
def patOk (p : ByteArray) : Bool := (patG p).isSome
theorem altsV_ext (r : Option (List (List Int))) : ∃ o, altsV r = .tup [o, bool r.isSome] ∧ (∀ out, r = some out → o = .sl 1 (out.map altS)) := by
  cases r with
  | none => exact ⟨_, rfl, fun _ h => by cases h⟩
  | some out => exact ⟨_, rfl, fun _ h => by cases h; rfl⟩
theorem altsW_ext (r : Option (List (List Int))) : ∃ o, altsW r = .tup [o, bool r.isSome] ∧ (∀ out, r = some out → o = .sl 1 (out.map ints)) := by
  cases r with
  | none => exact ⟨_, rfl, fun _ h => by cases h⟩
  | some out => exact ⟨_, rfl, fun _ h => by cases h; rfl⟩
theorem partsV_ext (a : List Int) (s : List UInt8) : ∃ o, partsV a s = .tup [o, bool (fit a s)] ∧ (fit a s = true → o = .sl 1 ((partsG a s).map strp)) := by
  unfold partsV
  cases h : fit a s with
  | false => exact ⟨_, rfl, fun h => by cases h⟩
  | true => exact ⟨_, rfl, fun _ => rfl⟩
theorem f173_ok (s : ByteArray) (hs : s.size ≤ 1048576) : PFn Tryz.prog 173 [str s] (bool (patOk s)) := by
  obtain ⟨o, ho, _⟩ := altsW_ext (patG s)
  have hc := f224_ok s hs
  rw [ho] at hc
  refine fn_ok' (n := 11) Tryz.func173 rfl rfl rfl (Nat.le_of_ble_eq_true rfl) rfl fun w0 O => ?_
  refine ok_seq fun K1 h1 => ok_region rfl (q_as _ rfl (run_nil (h1 _ ?_))); clear h1 K1
  refine ok_seq fun K2 h2 => ok_region rfl (q_mv _ rfl (q_call hc cl224 rfl rfl (q_mv _ rfl (q_ext _ rfl rfl (q_ext _ rfl rfl (q_as _ rfl (q_as _ rfl (run_nil (h2 _ ?_))))))))); clear h2 K2
  refine ok_seq fun K3 h3 => ok_region rfl (q_mv _ rfl (q_as _ rfl (run_nil (h3 _ ?_)))); clear h3 K3
  exact ok_ret ⟨_, rfl, rfl⟩
theorem f228_ok (s : ByteArray) (hs : s.size ≤ 1048576) : PFn Tryz.prog 228 [str s] (bool (patOk s)) := by
  obtain ⟨o, ho, _⟩ := altsV_ext (patG s)
  have hc := f260_ok s hs
  rw [ho] at hc
  refine fn_ok' (n := 11) Tryz.func228 rfl rfl rfl (Nat.le_of_ble_eq_true rfl) rfl fun w0 O => ?_
  refine ok_seq fun K1 h1 => ok_region rfl (q_as _ rfl (run_nil (h1 _ ?_))); clear h1 K1
  refine ok_seq fun K2 h2 => ok_region rfl (q_mv _ rfl (q_call hc cl260 rfl rfl (q_mv _ rfl (q_ext _ rfl rfl (q_ext _ rfl rfl (q_as _ rfl (q_as _ rfl (run_nil (h2 _ ?_))))))))); clear h2 K2
  refine ok_seq fun K3 h3 => ok_region rfl (q_mv _ rfl (q_as _ rfl (run_nil (h3 _ ?_)))); clear h3 K3
  exact ok_ret ⟨_, rfl, rfl⟩
theorem any_take {α : Type} {p : α → Bool} {l : List α} {k : Nat} {x : α} (h : l[k]? = some x) (h0 : (l.take k).any p = false) : (l.take (k + 1)).any p = p x := by
  rw [List.take_add_one, h, Option.toList_some, List.any_append, h0]; simp
/-- The reference: of a good pattern. -/
theorem f259_ok (p s : ByteArray) (hp : p.size ≤ 1048576) (hs : s.size ≤ 1048576) (hg : patOk p = true) : PFn Tryz.prog 259 [str p, str s] (bool (patB p s)) := by
  obtain ⟨out, ho⟩ := Option.isSome_iff_exists.1 hg
  obtain ⟨q1, q2⟩ := patG_ok ho
  have hc := f224_ok p hp
  rw [ho] at hc
  have hB : patB p s = out.any fun a => fit a s.data.toList := by unfold patB; rw [ho]
  refine fn_ok' (n := 26) Tryz.func259 rfl rfl rfl (Nat.le_of_ble_eq_true rfl) rfl fun w0 O => ?_
  refine ok_seq fun K1 h1 => ok_region rfl (q_as _ rfl (run_nil (h1 _ ?_))); clear h1 K1
  refine ok_seq fun K2 h2 => ok_region rfl (q_mv _ rfl (q_call hc cl224 rfl rfl (q_mv (altsW (some out)) rfl (q_ext _ rfl rfl (q_ext _ rfl rfl (q_as _ rfl (q_as _ rfl (run_nil (h2 _ ?_))))))))); clear h2 K2
  refine ok_seq fun K3 h3 => ?_
  refine ok_seq fun K4 h4 => ok_region rfl (q_mv _ rfl (q_len eS226 rfl (q_mv _ rfl (run_nil (h4 _ ?_))))); clear h4 K4
  refine ok_block ?_
  refine ok_loop (fun (k : Nat) => ⟨[(1, .sv (str s)), (14, .sv (.sl 1 (out.map ints))), (15, .sv (int out.length)), (16, .sv (int k))], []⟩) (fun k => k ≤ out.length ∧ (out.take k).any (fun a => fit a s.data.toList) = false) (fun k => out.length - k) 0 ⟨by simp, by simp⟩ (le_same ⟨rfl, rfl, by simp; rfl, rfl, trivial⟩) (fun k J => ?_)
  refine ok_seq fun K5 h5 => ok_region rfl (q_bin _ _ _ rfl rfl rfl (run_nil (h5 _ ?_))); clear h5 K5
  refine ok_seq fun K6 h6 => ?_
  refine ok_cond rfl (fun c7 => ?_) (fun c7 => ?_)
  · refine ok_skip (h6 _ ?_)
    have hk : k < out.length := by simpa using c7
    obtain ⟨a, hu⟩ := sget hk
    have ha := q1 a (smem hu)
    have h0 := rowB_get (a := a) (s := s.data.toList) (k := 0) (Nat.zero_le _)
    simp only [List.drop_zero] at h0
    refine ok_seq fun K8 h8 => ?_
    refine ok_block ?_
    refine ok_seq fun K9 h9 => ok_region rfl (q_ia (s := ints a) el226 rfl rfl (by omega) (mget hu) (q_ld _ ag40 rfl rfl (q_as _ rfl (run_nil (h9 _ ?_))))); clear h9 K9
    refine ok_seq fun K10 h10 => ok_region rfl (q_mv _ rfl (q_mv _ rfl (q_call (f274_ok a s (by have := ha.1; omega) hs) cl274 rfl rfl (q_ia (s := bool _) el277 rfl rfl (by omega) (bget_map h0) (q_ld _ ag4 rfl rfl (run_nil (h10 _ ?_))))))); clear h10 K10
    refine ok_cond rfl (fun c11 => ?_) (fun c11 => ?_)
    · refine ok_seq fun K12 h12 => ?_
      refine ok_region rfl (q_as _ rfl (run_nil (h12 _ ?_)))
      clear h12 K12
      refine ok_ret ⟨_, rfl, ?_⟩
      rw [hB, List.any_eq_true.2 ⟨a, smem hu, c11⟩]; rfl
    · refine ok_skip (h8 _ ?_)
      refine ok_last fun K13 h13 => ok_region rfl (
        q_add rfl rfl (by omega) (q_mv _ rfl (run_nil (h13 _ ⟨k + 1, by omega, ⟨hk, by rw [any_take hu J.2]; exact c11⟩, le_same ⟨rfl, rfl, rfl, rfl, trivial⟩⟩))))
  · refine ok_exit (h3 _ ?_)
    have hk : k = out.length := by have : ¬ k < out.length := by simpa using c7
                                   omega
    refine ok_seq fun K14 h14 => ok_region rfl (q_as _ rfl (run_nil (h14 _ ?_))); clear h14 K14
    refine ok_ret ⟨_, rfl, ?_⟩
    have := J.2
    rw [hk, List.take_length] at this
    rw [hB, this]; rfl
/-- The program's parts: of the first alternative that stands for it. -/
def ppV (p s : ByteArray) : Option (List (List UInt8)) := match patG p with | none => none | some out => if 100 < s.size then none else (out.find? fun a => fit a s.data.toList).map fun a => partsG a s.data.toList
def ppS : Option (List (List UInt8)) → SV
  | none => .tup [.raw (.slice none 0 0), bool false]
  | some q => .tup [.sl 1 (q.map strp), bool true]
theorem f277_ok (p s : ByteArray) (hp : p.size ≤ 1048576) (hs : s.size ≤ 1048576) : PFn Tryz.prog 277 [str p, str s] (ppS (ppV p s)) := by
  obtain ⟨o, ho, ho2⟩ := altsV_ext (patG p)
  have hc := f260_ok p hp
  rw [ho] at hc
  refine fn_ok' (n := 39) Tryz.func277 rfl rfl rfl (Nat.le_of_ble_eq_true rfl) rfl fun w0 O => ?_
  refine ok_seq fun K1 h1 => ok_region rfl (q_as _ rfl (q_as _ rfl (run_nil (h1 _ ?_)))); clear h1 K1
  refine ok_seq fun K2 h2 => ok_region rfl (q_mv _ rfl (q_call hc cl260 rfl rfl (q_mv _ rfl (q_ext _ rfl rfl (q_ext _ rfl rfl (q_as _ rfl (q_as _ rfl (run_nil (h2 _ ?_))))))))); clear h2 K2
  refine ok_seq fun K3 h3 => ?_
  refine ok_seq fun K4 h4 => ?_
  refine ok_region rfl (q_mv _ rfl (q_un _ _ rfl rfl (q_mv _ rfl (q_or 3 3 rfl rfl rfl rfl rfl (fun hb23 =>
      q_mv _ rfl (q_lens st9 rfl (q_bin _ _ _ rfl rfl rfl (run_nil ⟨rfl, rfl, rfl, rfl⟩)))) (
    run_nil (h4 _ ?_))))))
  clear h4 K4
  refine ok_cond rfl (fun c5 => ?_) (fun c5 => ?_)
  · refine ok_seq fun K6 h6 => ?_
    refine ok_region rfl (q_as _ rfl (q_as _ rfl (run_nil (h6 _ ?_))))
    clear h6 K6
    refine ok_ret ⟨_, rfl, ?_⟩
    have : ppV p s = none := by
      unfold ppV
      cases hq : patG p with
      | none => rfl
      | some out =>
        rw [hq] at c5; simp at c5
        show (if 100 < s.size then none else _) = none
        rw [if_pos (by omega)]
    rw [this]; rfl
  · refine ok_skip (h3 _ ?_)
    rw [Bool.or_eq_false_iff] at c5
    obtain ⟨out, hq⟩ : ∃ out, patG p = some out := Option.isSome_iff_exists.1 (by simpa using c5.1)
    have hsz : ¬ 100 < s.size := by have := c5.2; simp at this; omega
    obtain ⟨q1, q2⟩ := patG_ok hq
    have hoo := ho2 out hq
    subst hoo
    have hV : ppV p s = (out.find? fun a => fit a s.data.toList).map fun a => partsG a s.data.toList := by unfold ppV; rw [hq]; simp only; rw [if_neg hsz]
    refine ok_seq fun K7 h7 => ?_
    refine ok_seq fun K8 h8 => ok_region rfl (q_mv _ rfl (q_len eS257 rfl (q_mv _ rfl (run_nil (h8 _ ?_))))); clear h8 K8
    refine ok_block ?_
    refine ok_loop (fun (k : Nat) => ⟨[(1, .sv (str s)), (24, .sv (.sl 1 (out.map altS))), (25, .sv (int out.length)), (26, .sv (int k))], []⟩) (fun k => k ≤ out.length ∧ out.find? (fun a => fit a s.data.toList) = (out.drop k).find? fun a => fit a s.data.toList) (fun k => out.length - k) 0 ⟨by simp, rfl⟩ (le_same ⟨rfl, rfl, by simp; rfl, rfl, trivial⟩) (fun k J => ?_)
    refine ok_seq fun K9 h9 => ok_region rfl (q_bin _ _ _ rfl rfl rfl (run_nil (h9 _ ?_))); clear h9 K9
    refine ok_seq fun K10 h10 => ?_
    refine ok_cond rfl (fun c11 => ?_) (fun c11 => ?_)
    · refine ok_skip (h10 _ ?_)
      have hk : k < out.length := by simpa using c11
      obtain ⟨a, hu⟩ := sget hk
      have ha := q1 a (smem hu)
      have hj := J.2
      rw [drop_cons hu, List.find?_cons] at hj
      obtain ⟨o2, hp2, hp3⟩ := partsV_ext a s.data.toList
      have hc2 := f282_ok a s (by have := ha.1; omega) ha.2 hs
      rw [hp2] at hc2
      refine ok_seq fun K12 h12 => ?_
      refine ok_block ?_
      refine ok_seq fun K13 h13 => ok_region rfl (q_ia (s := altS a) el257 rfl rfl (by omega) (mget hu) (q_ld _ ag281 rfl rfl (q_as _ rfl (run_nil (h13 _ ?_))))); clear h13 K13
      refine ok_seq fun K14 h14 => ok_region rfl (q_mv _ rfl (q_mv _ rfl (q_call hc2 cl282 rfl rfl (q_mv _ rfl (q_ext _ rfl rfl (q_ext _ rfl rfl (q_as _ rfl (q_as _ rfl (run_nil (h14 _ ?_)))))))))); clear h14 K14
      refine ok_seq fun K15 h15 => ok_region rfl (q_mv _ rfl (run_nil (h15 _ ?_))); clear h15 K15
      refine ok_cond rfl (fun c16 => ?_) (fun c16 => ?_)
      · have hoo := hp3 c16
        subst hoo
        refine ok_seq fun K17 h17 => ?_
        refine ok_region rfl (q_mv _ rfl (q_as _ rfl (q_as _ rfl (run_nil (h17 _ ?_)))))
        clear h17 K17
        refine ok_ret ⟨_, rfl, ?_⟩
        rw [hV, hj, c16]; rfl
      · refine ok_skip (h12 _ ?_)
        rw [c16] at hj
        refine ok_last fun K18 h18 => ok_region rfl (
          q_add rfl rfl (by omega) (q_mv _ rfl (run_nil (h18 _ ⟨k + 1, by omega, ⟨hk, hj⟩, le_same ⟨rfl, rfl, rfl, rfl, trivial⟩⟩))))
    · refine ok_exit (h7 _ ?_)
      have hk : k = out.length := by have : ¬ k < out.length := by simpa using c11
                                     omega
      refine ok_seq fun K19 h19 => ok_region rfl (q_as _ rfl (q_as _ rfl (run_nil (h19 _ ?_)))); clear h19 K19
      refine ok_ret ⟨_, rfl, ?_⟩
      have := J.2
      rw [hk, List.drop_length] at this
      rw [hV, this]; rfl
theorem ppV_some (p s : ByteArray) (hs : s.size ≤ 100) : (ppV p s).isSome = patB p s := by
  unfold ppV patB
  cases patG p with
  | none => rfl
  | some out =>
    simp only
    rw [if_neg (by omega), Option.isSome_map]
    exact Bool.eq_iff_iff.2 (by rw [List.find?_isSome, List.any_eq_true])
theorem ppS_ext (r : Option (List (List UInt8))) : ∃ o, ppS r = .tup [o, bool r.isSome] := by cases r <;> exact ⟨_, rfl⟩
theorem f261_ok (p s : ByteArray) (hp : p.size ≤ 1048576) (hs : s.size ≤ 100) : PFn Tryz.prog 261 [str p, str s] (bool (patB p s)) := by
  obtain ⟨o, ho⟩ := ppS_ext (ppV p s)
  have hc := f277_ok p s hp (by omega)
  rw [ho, ppV_some p s hs] at hc
  refine fn_ok' (n := 14) Tryz.func261 rfl rfl rfl (Nat.le_of_ble_eq_true rfl) rfl fun w0 O => ?_
  refine ok_seq fun K1 h1 => ok_region rfl (q_as _ rfl (run_nil (h1 _ ?_))); clear h1 K1
  refine ok_seq fun K2 h2 => ok_region rfl (q_mv _ rfl (q_mv _ rfl (q_call hc cl277 rfl rfl (q_mv _ rfl (q_ext _ rfl rfl (q_ext _ rfl rfl (q_as _ rfl (q_as _ rfl (run_nil (h2 _ ?_)))))))))); clear h2 K2
  refine ok_seq fun K3 h3 => ok_region rfl (q_mv _ rfl (q_as _ rfl (run_nil (h3 _ ?_)))); clear h3 K3
  exact ok_ret ⟨_, rfl, rfl⟩
end Go.Ring
