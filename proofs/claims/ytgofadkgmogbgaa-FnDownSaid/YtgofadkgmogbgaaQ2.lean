/- Labels read back from their own text: the program. No condition beyond the lengths. -/
import Derived.Test.YtgofadkgmogbgaaQ1
set_option maxRecDepth 100000
set_option linter.unusedVariables false
set_option linter.unusedSimpArgs false
namespace Go.Ring
open Go Go.RowKit Go.Eager Go.Abs Go.Proofs
theorem bs_toList (l : List UInt8) : (bs l).data.toList = l := rfl
theorem bs_extract (l : List UInt8) (i j : Nat) : (bs l).extract i j = bs ((l.drop i).take (j - i)) := by
  have h : (ByteArray.extract (bs l) i j).data = (bs l).data.extract i j := by simp [ByteArray.data_extract]
  have h2 : ((bs l).data.extract i j).toList = (l.drop i).take (j - i) := by simp [bs]
  have h3 : ((bs l).extract i j).data = (bs ((l.drop i).take (j - i))).data := by
    rw [h]
    apply Array.ext'
    rw [h2]
  cases hx : (bs l).extract i j with
  | mk d => rw [hx] at h3; simp only at h3; rw [h3]
theorem two_args {w : World} {O : Nat → Prop} {s p : ByteArray} {vs : Array Value} (hsz : vs.size = 2) (hr : ∀ (i : Nat) (a : SV) (u : Value), [str s, str p][i]? = some a → vs[i]? = some u → Rep w O a u) : vs = #[.string s, .string p] := by
  match vs, hsz with
  | ⟨[a, b]⟩, _ =>
    have h0 := rep_raw' (hr 0 (str s) a rfl rfl)
    have h1 := rep_raw' (hr 1 (str p) b rfl rfl)
    rw [h0, h1]
theorem f179_p (s p : ByteArray) : PFn Try.prog 179 [str s, str p] (.tup [str (bs (Lib.trimPrefix s.data.toList p.data.toList)), bool (Lib.hasPrefix s.data.toList p.data.toList)]) := by
  intro w O vs hO hsz hr
  obtain rfl := two_args hsz hr
  refine (Any.strings_CutPrefix Try.lays103 s p w).mono ?_
  rintro e w' ⟨rfl, rfl⟩
  refine ⟨_, rfl, Ext.refl w', .tup _ _ rfl fun i a u ha hu => ?_⟩
  match i, ha, hu with
  | 0, ha, hu => cases ha; cases hu; exact .raw _
  | 1, ha, hu => cases ha; cases hu; exact .raw _
  | n + 2, ha, hu => simp at ha
theorem f180_p (s p : ByteArray) : PFn Try.prog 180 [str s, str p] (bool (Lib.hasPrefix s.data.toList p.data.toList)) := by
  intro w O vs hO hsz hr
  obtain rfl := two_args hsz hr
  refine (Any.strings_HasPrefix Try.lays99 s p w).mono ?_
  rintro e w' ⟨rfl, rfl⟩
  exact ⟨_, rfl, Ext.refl w', .raw _⟩
theorem cut_yes (c : UInt8) (r : List UInt8) : Lib.trimPrefix (c :: r) [c] = r ∧ Lib.hasPrefix (c :: r) [c] = true := by
  have h : Lib.hasPrefix (c :: r) [c] = true := by simp [Lib.hasPrefix, List.isPrefixOf]
  exact ⟨by unfold Lib.trimPrefix; rw [if_pos h]; rfl, h⟩
theorem cut_q (c : UInt8) (r : List UInt8) : PFn Try.prog 179 [str (bs (c :: r)), str (bs [c])] (.tup [str (bs r), bool true]) := by
  have h := f179_p (bs (c :: r)) (bs [c])
  rw [bs_toList, bs_toList, (cut_yes c r).1, (cut_yes c r).2] at h
  exact h
/-- A word at the front, cut off where an equals sign stands. -/
theorem f181_q (n r : List UInt8) (hn : n.all wordB = true) (hl : (n ++ 61 :: r).length ≤ 4611686018427387904) : PFn Try.prog 181 [str (bs (n ++ 61 :: r))] (.tup [str (bs n), str (bs (61 :: r))]) := by
  have hsz : (bs (n ++ 61 :: r)).size = n.length + 1 + r.length := by rw [bs_size]; simp; omega
  rw [List.length_append, List.length_cons] at hl
  refine fn_ok' (n := 23) Try.func181 rfl rfl rfl (Nat.le_of_ble_eq_true rfl) rfl fun w0 O => ?_
  refine ok_seq fun K1 h1 => ok_region rfl (q_as _ rfl (q_as _ rfl (run_nil (h1 _ ?_)))); clear h1 K1
  refine ok_seq fun K1 h1 => ok_region rfl (q_as _ rfl (run_nil (h1 _ ?_))); clear h1 K1
  refine ok_seq fun K2 h2 => ?_
  refine ok_block ?_
  refine ok_loop (fun (k : Nat) => ⟨[(0, .sv (str (bs (n ++ 61 :: r)))), (4, .sv (int k))], []⟩) (fun k => k ≤ n.length) (fun k => n.length - k) 0 (Nat.zero_le _) (le_sub ⟨rfl, rfl, trivial⟩ trivial) (fun k J => ?_)
  obtain ⟨c, hc⟩ : ∃ c, (n ++ 61 :: r)[k]? = some c := ⟨_, List.getElem?_eq_getElem (by simp; omega)⟩
  have hcb : (bs (n ++ 61 :: r))[k]? = some c := bget (s := bs (n ++ 61 :: r)) hc
  refine ok_seq fun K4 h4 => ?_
  refine ok_seq fun K5 h5 => ?_
  refine ok_region rfl (q_mv (int k) rfl (q_mv (str (bs (n ++ 61 :: r))) rfl (q_lens st9 rfl (q_bin _ _ _ rfl rfl rfl (q_mv _ rfl (q_and (b2 := wordB c) 4 4 rfl rfl rfl rfl rfl (fun hb =>
      q_mv (str (bs (n ++ 61 :: r))) rfl (q_mv (int k) rfl (q_ix st9 rfl rfl (by omega) hcb (q_call (f187_ok c) cl187 rfl rfl (run_nil ⟨rfl, rfl, rfl, rfl⟩))))) (
    run_nil (h5 _ ?_))))))))
  clear h5 K5
  have hlt : decide ((k : Int) < (bs (n ++ 61 :: r)).size) = true := decide_eq_true (by rw [hsz]; omega)
  rw [hlt, Bool.true_and]
  refine ok_cond rfl (fun c6 => ?_) (fun c6 => ?_)
  · have hk : k < n.length := by
      rcases Nat.lt_or_ge k n.length with h | h
      · exact h
      · have hk : k = n.length := by omega
        subst hk
        rw [List.getElem?_append_right (Nat.le_refl _), Nat.sub_self] at hc
        cases hc
        exact absurd c6 (by decide)
    refine ok_skip (h4 _ ?_)
    refine ok_block ?_
    refine ok_last fun K8 h8 => ok_region rfl (q_mv (int k) rfl (q_add rfl rfl (by omega) (q_as _ rfl (run_nil (h8 _ ⟨k + 1, by omega, hk, le_sub ⟨rfl, rfl, trivial⟩ trivial⟩)))))
  · have hk : k = n.length := by
      rcases Nat.lt_or_ge k n.length with h | h
      · rw [List.getElem?_append_left h] at hc
        have := List.all_eq_true.1 hn c (smem hc)
        rw [this] at c6; cases c6
      · omega
    subst hk
    refine ok_exit (h2 _ ?_)
    refine ok_seq fun K9 h9 => ok_region_i (by kernel_rfl) (by kernel_rfl) rfl (q_mv (str (bs (n ++ 61 :: r))) rfl (q_mv (int n.length) rfl (q_ss 0 n.length st9 rfl (.inl ⟨rfl, rfl⟩) (.inr ⟨_, _, rfl, rfl⟩) (by omega) (by omega) (by omega) (q_mv (str (bs (n ++ 61 :: r))) rfl (q_mv (int n.length) rfl (q_ss n.length (bs (n ++ 61 :: r)).size st9 rfl (.inr ⟨_, _, rfl, rfl⟩) (.inl ⟨rfl, rfl⟩) (by omega) (by omega) (by omega) (q_as _ rfl (q_as _ rfl (run_nil (h9 _ ?_))))))))))
    clear h9 K9
    refine ok_ret ⟨_, rfl, ?_⟩
    have e1 : (bs (n ++ 61 :: r)).extract (Int.toNat 0) ((n.length : Nat) : Int).toNat = bs n := by
      rw [bs_extract]; simp
    have e2 : (bs (n ++ 61 :: r)).extract ((n.length : Nat) : Int).toNat (((bs (n ++ 61 :: r)).size : Nat) : Int).toNat = bs (61 :: r) := by
      rw [bs_extract, Int.toNat_natCast, Int.toNat_natCast, List.drop_left' rfl, List.take_of_length_le (by rw [hsz]; simp; omega)]
    rw [e1, e2]; rfl
end Go.Ring
