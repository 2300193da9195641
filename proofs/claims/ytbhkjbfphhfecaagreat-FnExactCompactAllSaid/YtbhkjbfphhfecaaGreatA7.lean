/- Patterns and matchers: what the program and the reference say of them. No condition beyond the lengths. -/
import Derived.Test.YtbhkjbfphhfecaaGreatA6
import Derived.Test.YtbhkjbfphhfecaaGreatG10
namespace Go.Ring
open Go Go.RowKit Go.Eager Go.Abs Go.Proofs
set_option maxRecDepth 100000
set_option linter.unusedVariables false
set_option linter.unusedSimpArgs false
def PcOk (x : Int) : Prop := x = -1 ∨ x = -2 ∨ 0 ≤ x ∧ x ≤ 255
def AltOk (N : Nat) (a : List Int) : Prop := a.length ≤ N ∧ ∀ x ∈ a, PcOk x
theorem pcOk_byte (c : UInt8) : PcOk (c.toNat : Int) := .inr (.inr ⟨by omega, by have := c.toNat_lt; omega⟩)
theorem altOk_snoc {N : Nat} {a : List Int} {x : Int} (h : AltOk N a) (hx : PcOk x) : AltOk (N + 1) (a ++ [x]) :=
  ⟨by simp; exact h.1, fun y hy => by rcases List.mem_append.1 hy with h1 | h1; exact h.2 y h1; simp at h1; subst h1; exact hx⟩
theorem altOk_mono {N M : Nat} {a : List Int} (h : AltOk N a) (hl : N ≤ M) : AltOk M a := ⟨Nat.le_trans h.1 hl, h.2⟩
theorem alts_ok (M : Nat) : ∀ (n : Nat) (l : List UInt8) (now : List Int) (out r : List (List Int)), l.length ≤ n → alts l now out = some r → now.length + l.length ≤ M → AltOk now.length now → (∀ a ∈ out, AltOk M a) → (∀ a ∈ r, AltOk M a) ∧ r.length ≤ out.length + l.length + 1
  | n, [], now, out, r, hn, h, hM, hnow, hout => by
    simp [alts] at h
    subst h
    refine ⟨fun a ha => ?_, by simp⟩
    rcases List.mem_append.1 ha with h1 | h1
    · exact hout a h1
    · simp at h1; subst h1; exact altOk_mono hnow (by simpa using hM)
  | 0, c :: l, _, _, _, hn, _, _, _, _ => by simp at hn
  | n + 1, c :: l, now, out, r, hn, h, hM, hnow, hout => by
    have hl : l.length ≤ n := by simpa using hn
    simp only [List.length_cons] at hM
    by_cases h1 : c = 124
    · subst h1
      rw [alts_bar] at h
      have := alts_ok M n l [] (out ++ [now]) r hl h (by simp; omega) ⟨by simp, by simp⟩ (fun a ha => by
        rcases List.mem_append.1 ha with h1 | h1
        · exact hout a h1
        · simp at h1; subst h1; exact altOk_mono hnow (by omega))
      exact ⟨this.1, by have := this.2; simp at this ⊢; omega⟩
    by_cases h2 : c = 42
    · subst h2
      rw [alts_star] at h
      have := alts_ok M n l (now ++ [-1]) out r hl h (by simp; omega) (by simpa using altOk_snoc hnow (.inl rfl)) hout
      exact ⟨this.1, by have := this.2; simp; omega⟩
    by_cases h3 : c = 63
    · subst h3
      rw [alts_any] at h
      have := alts_ok M n l (now ++ [-2]) out r hl h (by simp; omega) (by simpa using altOk_snoc hnow (.inr (.inl rfl))) hout
      exact ⟨this.1, by have := this.2; simp; omega⟩
    by_cases h4 : c = 92
    · subst h4
      cases l with
      | nil => rw [alts_esc0] at h; cases h
      | cons e l =>
        rw [alts_esc] at h
        split at h
        · have := alts_ok M n l (now ++ [(e.toNat : Int)]) out r (by simp at hl; omega) h (by simp at hM ⊢; omega) (by simpa using altOk_snoc hnow (pcOk_byte e)) hout
          exact ⟨this.1, by have := this.2; simp; omega⟩
        · cases h
    · rw [alts_byte _ _ _ h1 h2 h3 h4] at h
      have := alts_ok M n l (now ++ [(c.toNat : Int)]) out r hl h (by simp; omega) (by simpa using altOk_snoc hnow (pcOk_byte c)) hout
      exact ⟨this.1, by have := this.2; simp; omega⟩
theorem patG_ok {s : ByteArray} {out : List (List Int)} (h : patG s = some out) : (∀ a ∈ out, AltOk 100 a) ∧ out.length ≤ 101 := by
  unfold patG at h
  split at h
  · rename_i hp
    have hz : s.data.toList.length = s.size := by simp
    have := alts_ok 100 _ _ _ _ _ (Nat.le_refl _) h (by simp; omega) ⟨by simp, by simp⟩ (by simp)
    exact ⟨this.1, by have := this.2; simp at this; omega⟩
  · cases h
/-- A pattern stands for a text. -/
def patB (p s : ByteArray) : Bool := match patG p with | some out => out.any fun a => fit a s.data.toList | none => false
def patOk (p : ByteArray) : Bool := (patG p).isSome
theorem any_take {α : Type} {p : α → Bool} {l : List α} {k : Nat} {x : α} (h : l[k]? = some x) (h0 : (l.take k).any p = false) : (l.take (k + 1)).any p = p x := by
  rw [List.take_add_one, h, Option.toList_some, List.any_append, h0]; simp
/-- The reference: of a good pattern. -/
theorem f175_ok (p s : ByteArray) (hp : p.size ≤ 1048576) (hs : s.size ≤ 1048576) (hg : patOk p = true) : PFn Tryz.prog 175 [str p, str s] (bool (patB p s)) := by
  obtain ⟨out, ho⟩ := Option.isSome_iff_exists.1 hg
  obtain ⟨q1, q2⟩ := patG_ok ho
  have hc := f174_ok p hp
  rw [ho] at hc
  have hB : patB p s = out.any fun a => fit a s.data.toList := by unfold patB; rw [ho]
  refine fn_ok' (n := 26) Tryz.func175 rfl rfl rfl (Nat.le_of_ble_eq_true rfl) rfl fun w0 O => ?_
  refine ok_seq fun K1 h1 => ok_region rfl (q_as _ rfl (run_nil (h1 _ ?_))); clear h1 K1
  refine ok_seq fun K2 h2 => ok_region rfl (q_mv _ rfl (q_call hc cl174 rfl rfl (q_mv (altsW (some out)) rfl (q_ext _ rfl rfl (q_ext _ rfl rfl (q_as _ rfl (q_as _ rfl (run_nil (h2 _ ?_))))))))); clear h2 K2
  refine ok_seq fun K3 h3 => ?_
  refine ok_seq fun K4 h4 => ok_region rfl (q_mv _ rfl (q_len eS184 rfl (q_mv _ rfl (run_nil (h4 _ ?_))))); clear h4 K4
  refine ok_block ?_
  refine ok_loop (fun (k : Nat) => ⟨[(1, .sv (str s)), (14, .sv (.sl 1 (out.map ints))), (15, .sv (int out.length)), (16, .sv (int k))], []⟩) (fun k => k ≤ out.length ∧ (out.take k).any (fun a => fit a s.data.toList) = false) (fun k => out.length - k) 0 ⟨by simp, by simp⟩ (le_same ⟨rfl, rfl, by simp; rfl, rfl, trivial⟩) (fun k J => ?_)
  refine ok_seq fun K5 h5 => ok_region rfl (q_bin _ _ _ rfl rfl rfl (run_nil (h5 _ ?_))); clear h5 K5
  refine ok_seq fun K6 h6 => ?_
  refine ok_cond rfl (fun c7 => ?_) (fun c7 => ?_)
  · refine ok_skip (h6 _ ?_)
    have hk : k < out.length := by simpa using c7
    obtain ⟨a, hu⟩ := sget hk
    have ha := q1 a (smem hu)
    have h0 := rowB_get (a := a) (s := s.data.toList) (k := 0) (Nat.zero_le _)
    simp only [List.drop_zero] at h0
    refine ok_seq fun K8 h8 => ?_
    refine ok_block ?_
    refine ok_seq fun K9 h9 => ok_region rfl (q_ia (s := ints a) el184 rfl rfl (by omega) (mget hu) (q_ld _ ag29 rfl rfl (q_as _ rfl (run_nil (h9 _ ?_))))); clear h9 K9
    refine ok_seq fun K10 h10 => ok_region rfl (q_mv _ rfl (q_mv _ rfl (q_call (f213_ok a s (by have := ha.1; omega) hs) cl213 rfl rfl (q_ia (s := bool _) el215 rfl rfl (by omega) (bget_map h0) (q_ld _ ag4 rfl rfl (run_nil (h10 _ ?_))))))); clear h10 K10
    refine ok_cond rfl (fun c11 => ?_) (fun c11 => ?_)
    · refine ok_seq fun K12 h12 => ?_
      refine ok_region rfl (q_as _ rfl (run_nil (h12 _ ?_)))
      clear h12 K12
      refine ok_ret ⟨_, rfl, ?_⟩
      rw [hB, List.any_eq_true.2 ⟨a, smem hu, c11⟩]; rfl
    · refine ok_skip (h8 _ ?_)
      refine ok_last fun K13 h13 => ok_region rfl (
        q_add rfl rfl (by omega) (q_mv _ rfl (run_nil (h13 _ ⟨k + 1, by omega, ⟨hk, by rw [any_take hu J.2]; exact c11⟩, le_same ⟨rfl, rfl, rfl, rfl, trivial⟩⟩))))
  · refine ok_exit (h3 _ ?_)
    have hk : k = out.length := by have : ¬ k < out.length := by simpa using c7
                                   omega
    refine ok_seq fun K14 h14 => ok_region rfl (q_as _ rfl (run_nil (h14 _ ?_))); clear h14 K14
    refine ok_ret ⟨_, rfl, ?_⟩
    have := J.2
    rw [hk, List.take_length] at this
    rw [hB, this]; rfl
/-- The program's parts: of the first alternative that stands for it. -/
def ppV (p s : ByteArray) : Option (List (List UInt8)) := match patG p with | none => none | some out => if 100 < s.size then none else (out.find? fun a => fit a s.data.toList).map fun a => partsG a s.data.toList
def ppS : Option (List (List UInt8)) → SV
  | none => .tup [.raw (.slice none 0 0), bool false]
  | some q => .tup [.sl 1 (q.map strp), bool true]
end Go.Ring
