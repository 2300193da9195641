/- A text spoilt, a text that fits a pattern, a pattern and a text drawn: what bounds them. No condition beyond the lengths. -/
import Derived.Test.YtgofadkgmogbgaaD3
set_option maxRecDepth 100000
set_option linter.unusedVariables false
set_option linter.unusedSimpArgs false
namespace Go.Ring
open Go Go.RowKit Go.Eager Go.Abs Go.Proofs
theorem ex_size (t : ByteArray) (i j : Nat) (hj : j ≤ t.size) : (t.extract i j).size = j - i := by rw [ByteArray.size_extract]; omega
theorem cat_bin {x y : ByteArray} (h : x.size + y.size ≤ 9223372036854775807) : vBin .add (.string x) (.string y) = some (.string (x ++ y)) := by simp [vBin, vStr, h]
theorem u8_byte (x : Int) : ∃ b : UInt8, byteSV b = .raw (.int .u8 (IntKind.u8.wrap x)) := by
  have h : 0 ≤ IntKind.u8.wrap x ∧ IntKind.u8.wrap x ≤ 255 := by rw [IntKind.wrap_u8]; omega
  refine ⟨UInt8.ofNat (IntKind.u8.wrap x).toNat, ?_⟩
  have e : ((UInt8.ofNat (IntKind.u8.wrap x).toNat).toNat : Int) = IntKind.u8.wrap x := by
    rw [UInt8.toNat_ofNat']
    omega
  rw [byteSV, e]
theorem f67_ok (code : List UInt8) (a seed : Int) (hc : CurOk code a seed) (ha : a ≤ 700000000000000) (s0 wi : ByteArray) (hs0 : s0.size ≤ 100000) (hw0 : 0 < wi.size) (hw : wi.size ≤ 100000) : PFnB Try.prog 67 [.ptr 1000 0, .sv (str s0), .sv (str wi)] [(1000, curB code a seed)] [1000] (Dr code a 14 (Tx (s0.size + 2))) := by
  refine fnb_ok (n := 67) Try.func67 rfl rfl rfl (Nat.le_of_ble_eq_true rfl) rfl rfl fun w0 O M ρ => ?_
  refine ok_seq fun K1 h1 => ok_region rfl (q_as _ rfl (run_nil (h1 _ ?_))); clear h1 K1
  refine ok_seq fun K2 h2 => ?_
  refine ok_seq fun K3 h3 => ok_region rfl (q_mp 1000 0 rfl (q_dr (sa := [int 3]) 1000 (f74_ok code a seed hc (by omega) 3 (by omega)) cl74 rfl rfl rfl rfl rfl (fun s a1 seed1 hs ha1 ha2 hc1 => ?_)))
  obtain ⟨x, rfl, hx0, hx1⟩ := hs
  have hx1 := hx1 (by omega)
  obtain ⟨N, hN⟩ : ∃ N : Nat, x = N := ⟨x.toNat, by omega⟩
  subst hN
  refine q_as _ rfl (run_nil (h3 _ ?_)); clear h3 K3
  refine ok_block ?_
  refine ok_loop (fun (v : Nat × ByteArray × Int × Int) => ⟨[(0, .ptr 1000 0), (1, .sv (str v.2.1)), (2, .sv (str wi)), (7, .sv (int v.1))], [(1000, curB code v.2.2.1 v.2.2.2)]⟩) (fun v => v.1 ≤ 2 ∧ v.2.1.size + v.1 ≤ s0.size + 2 ∧ a ≤ v.2.2.1 ∧ v.2.2.1 + 6 * v.1 ≤ a + 14 ∧ CurOk code v.2.2.1 v.2.2.2) (fun v => v.1) (N, s0, a1, seed1) ⟨by simp only; omega, by simp only; omega, by simp only; omega, by simp only; omega, hc1⟩ (le_sub ⟨rfl, rfl, rfl, rfl, trivial⟩ ⟨rfl, trivial⟩) (fun v J => ?_)
  obtain ⟨n, t, a2, seed2⟩ := v
  obtain ⟨j1, j2, j3, j4, j5⟩ := J
  simp only at j1 j2 j3 j4 j5
  refine ok_seq fun K4 h4 => ?_
  refine ok_seq fun K5 h5 => ?_
  refine ok_region rfl (q_mv (int n) rfl (q_bin _ _ _ rfl rfl rfl (q_mv _ rfl (q_and (b2 := decide ((0 : Int) < t.size)) 3 3 rfl rfl rfl rfl rfl (fun hb18 =>
      q_mv (str t) rfl (q_lens st9 rfl (q_bin _ _ _ rfl rfl rfl (run_nil ⟨rfl, rfl, rfl, rfl⟩)))) (
    run_nil (h5 _ ?_))))))
  clear h5 K5
  refine ok_cond rfl (fun c6 => ?_) (fun c6 => ?_)
  · simp only [Bool.and_eq_true, decide_eq_true_eq] at c6
    obtain ⟨hn0, ht0⟩ := c6
    refine ok_skip (h4 _ ?_)
    refine ok_seq_join (fun (v : ByteArray × Int × Int) => ⟨[(0, .ptr 1000 0), (1, .sv (str v.1)), (2, .sv (str wi)), (7, .sv (int n))], [(1000, curB code v.2.1 v.2.2)]⟩) (fun v => v.1.size ≤ t.size + 1 ∧ a2 ≤ v.2.1 ∧ v.2.1 ≤ a2 + 6 ∧ CurOk code v.2.1 v.2.2) ?_ (fun v J => ?_)
    · refine ok_block ?_
      refine ok_seq fun K7 h7 => ok_region rfl (q_mp 1000 0 rfl (q_mv (str t) rfl (q_lens st9 rfl (q_dr (sa := [int t.size]) 1000 (f74_ok code a2 seed2 j5 (by omega) _ (by omega)) cl74 rfl rfl rfl rfl rfl (fun s a3 seed3 hs hb1 hb2 hc3 => ?_)))))
      obtain ⟨i, rfl, hi0, hi1⟩ := hs
      have hi1 := hi1 (by omega)
      obtain ⟨i, rfl⟩ : ∃ m : Nat, i = m := ⟨i.toNat, by omega⟩
      refine q_as _ rfl (run_nil (h7 _ ?_)); clear h7 K7
      refine ok_seq fun K8 h8 => ok_region rfl (q_mv (str wi) rfl (q_mp 1000 0 rfl (q_mv (str wi) rfl (q_lens st9 rfl (q_dr (sa := [int wi.size]) 1000 (f74_ok code a3 seed3 hc3 (by omega) _ (by omega)) cl74 rfl rfl rfl rfl rfl (fun s a4 seed4 hs hd1 hd2 hc4 => ?_))))))
      obtain ⟨z, rfl, hz0, hz1⟩ := hs
      have hz1 := hz1 (by omega)
      obtain ⟨b, hb⟩ : ∃ b, wi[z.toNat]? = some b := ⟨_, getElem?_pos _ _ (by omega)⟩
      refine q_ix st9 rfl rfl hz0 hb (q_lit1 _ (byteSV b) el22 ze5 (by decide) (by decide) rfl (.inr rfl) rfl (q_cvz (bs := [b]) Try.underlying22 Try.underlying5 u9 rfl (q_as _ rfl (run_nil (h8 _ ?_)))))
      clear h8 K8
      have hbs : (⟨#[b]⟩ : ByteArray).size = 1 := rfl
      refine ok_seq fun K9 h9 => ok_region rfl (q_mp 1000 0 rfl (q_dr (sa := [int 3]) 1000 (f74_ok code a4 seed4 hc4 (by omega) 3 (by omega)) cl74 rfl rfl rfl rfl rfl (fun s a5 seed5 hs he1 he2 hc5 => ?_)))
      obtain ⟨y, rfl, hy0, hy1⟩ := hs
      refine run_nil (h9 _ ?_); clear h9 K9
      have e1 := ex_size t 0 i (by omega)
      have e2 := ex_size t i t.size (by omega)
      have e3 := ex_size t (i + 1) t.size (by omega)
      refine ok_block ?_
      refine ok_seq fun K10 h10 => ok_region rfl (q_bin _ _ _ rfl rfl rfl (q_as _ rfl (run_nil (h10 _ ?_)))); clear h10 K10
      refine ok_cond rfl (fun c11 => ?_) (fun c11 => ?_)
      · refine ok_last fun K12 h12 => ok_region_i (by kernel_rfl) (by kernel_rfl) rfl (q_mv (str t) rfl (q_mv (int i) rfl (q_ss 0 i st9 rfl (.inl ⟨rfl, rfl⟩) (.inr ⟨_, _, rfl, rfl⟩) (by omega) (by omega) (by omega) (q_mv (str ⟨#[b]⟩) rfl (q_bin _ _ (.string (t.extract 0 i ++ ⟨#[b]⟩)) rfl rfl (cat_bin (by show (t.extract 0 i).size + (⟨#[b]⟩ : ByteArray).size ≤ _; rw [e1, hbs]; omega)) (q_mv (str t) rfl (q_mv (int i) rfl (q_ss i t.size st9 rfl (.inr ⟨_, _, rfl, rfl⟩) (.inl ⟨rfl, rfl⟩) (by omega) (by omega) (by omega) (q_bin _ _ (.string (t.extract 0 i ++ ⟨#[b]⟩ ++ t.extract i t.size)) rfl rfl (cat_bin (by show (t.extract 0 i ++ ⟨#[b]⟩).size + (t.extract i t.size).size ≤ _; rw [ByteArray.size_append, e1, hbs, e2]; omega)) (q_as _ rfl (run_nil (h12 _ ?_))))))))))))
        exact ⟨(_, a5, seed5), ⟨by simp only; rw [ByteArray.size_append, ByteArray.size_append, e1, e2, hbs]; omega, by simp only; omega, by simp only; omega, hc5⟩, le_sub ⟨rfl, rfl, rfl, rfl, trivial⟩ ⟨rfl, trivial⟩⟩
      · refine ok_seq fun K13 h13 => ok_region rfl (q_bin _ _ _ rfl rfl rfl (q_as _ rfl (run_nil (h13 _ ?_)))); clear h13 K13
        refine ok_cond rfl (fun c14 => ?_) (fun c14 => ?_)
        · refine ok_last fun K15 h15 => ok_region_i (by kernel_rfl) (by kernel_rfl) rfl (q_mv (str t) rfl (q_mv (int i) rfl (q_ss 0 i st9 rfl (.inl ⟨rfl, rfl⟩) (.inr ⟨_, _, rfl, rfl⟩) (by omega) (by omega) (by omega) (q_mv (str ⟨#[b]⟩) rfl (q_bin _ _ (.string (t.extract 0 i ++ ⟨#[b]⟩)) rfl rfl (cat_bin (by show (t.extract 0 i).size + (⟨#[b]⟩ : ByteArray).size ≤ _; rw [e1, hbs]; omega)) (q_mv (str t) rfl (q_mv (int i) rfl (q_add rfl rfl (by omega) (q_ss ((i : Int) + 1) t.size st9 rfl (.inr ⟨_, _, rfl, rfl⟩) (.inl ⟨rfl, rfl⟩) (by omega) (by omega) (by omega) ?_)))))))))
          rw [show ((i : Int) + 1).toNat = i + 1 by omega]
          refine q_bin _ _ (.string (t.extract 0 i ++ ⟨#[b]⟩ ++ t.extract (i + 1) t.size)) rfl rfl (cat_bin (by show (t.extract 0 i ++ ⟨#[b]⟩).size + (t.extract (i + 1) t.size).size ≤ _; rw [ByteArray.size_append, e1, hbs, e3]; omega)) (q_as _ rfl (run_nil (h15 _ ?_)))
          exact ⟨(_, a5, seed5), ⟨by simp only; rw [ByteArray.size_append, ByteArray.size_append, e1, e3, hbs]; omega, by simp only; omega, by simp only; omega, hc5⟩, le_sub ⟨rfl, rfl, rfl, rfl, trivial⟩ ⟨rfl, trivial⟩⟩
        · refine ok_last fun K16 h16 => ok_region_i (by kernel_rfl) (by kernel_rfl) rfl (q_mv (str t) rfl (q_mv (int i) rfl (q_ss 0 i st9 rfl (.inl ⟨rfl, rfl⟩) (.inr ⟨_, _, rfl, rfl⟩) (by omega) (by omega) (by omega) (q_mv (str t) rfl (q_mv (int i) rfl (q_add rfl rfl (by omega) (q_ss ((i : Int) + 1) t.size st9 rfl (.inr ⟨_, _, rfl, rfl⟩) (.inl ⟨rfl, rfl⟩) (by omega) (by omega) (by omega) ?_)))))))
          rw [show ((i : Int) + 1).toNat = i + 1 by omega]
          refine q_bin _ _ (.string (t.extract 0 i ++ t.extract (i + 1) t.size)) rfl rfl (cat_bin (by show (t.extract 0 i).size + (t.extract (i + 1) t.size).size ≤ _; rw [e1, e3]; omega)) (q_as _ rfl (run_nil (h16 _ ?_)))
          exact ⟨(_, a5, seed5), ⟨by simp only; rw [ByteArray.size_append, e1, e3]; omega, by simp only; omega, by simp only; omega, hc5⟩, le_sub ⟨rfl, rfl, rfl, rfl, trivial⟩ ⟨rfl, trivial⟩⟩
    · obtain ⟨t', a5, seed5⟩ := v
      obtain ⟨i1, i2, i3, i4⟩ := J
      simp only at i1 i2 i3 i4
      refine ok_last fun K17 h17 => ok_region rfl (q_mv (int n) rfl (q_sub rfl rfl (by omega) (q_as _ rfl (run_nil (h17 _ ⟨(n - 1, t', a5, seed5), by simp only; omega, ⟨by simp only; omega, by simp only; omega, by simp only; omega, by simp only; omega, i4⟩, ?_⟩)))))
      rw [show (n : Int) - 1 = ((n - 1 : Nat) : Int) by omega]
      exact le_sub ⟨rfl, rfl, rfl, rfl, trivial⟩ ⟨rfl, trivial⟩
  · refine ok_exit (h2 _ ?_)
    refine ok_seq fun K18 h18 => ok_region rfl (q_mv (str t) rfl (q_as _ rfl (run_nil (h18 _ ?_)))); clear h18 K18
    exact ok_ret ⟨_, _, ⟨_, _, rfl, rfl, rfl⟩, rfl, _, a2, seed2, rfl, ⟨t, rfl, by omega⟩, j3, by omega, j5, rfl⟩
end Go.Ring
