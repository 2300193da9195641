/- Drawn texts, patterns, and texts that patterns stand for: what bounds them. No condition beyond the lengths. -/
import Derived.Test.YtgofadkgmogbgaaD2
import Derived.Test.YtgofadkgmogbgaaA7
import Derived.Test.YtgofadkgmogbgaaEg3
set_option maxRecDepth 100000
set_option linter.unusedVariables false
set_option linter.unusedSimpArgs false
namespace Go.Ring
open Go Go.RowKit Go.Eager Go.Abs Go.Proofs
/-- A text of at most m bytes. -/
def Tx (m : Nat) : SV → Prop := fun s => ∃ x : ByteArray, s = str x ∧ x.size ≤ m
theorem u9 : Try.prog.underlying 9 = some .string := Try.underlying9
theorem f152_ok (code : List UInt8) (a seed : Int) (hc : CurOk code a seed) (ha : a ≤ 800000000000000) : PFnB Try.prog 152 [.ptr 1000 0] [(1000, curB code a seed)] [1000] (Dr code a 14 (Tx 6)) := by
  refine fnb_ok (n := 20) Try.func152 rfl rfl rfl (Nat.le_of_ble_eq_true rfl) rfl rfl fun w0 O M ρ => ?_
  refine ok_seq fun K1 h1 => ok_region rfl (q_as _ rfl (run_nil (h1 _ ?_))); clear h1 K1
  refine ok_seq fun K1 h1 => ok_region rfl (q_an (n := 1) 5 (by decide) rfl rfl rfl (run_nil (h1 _ ?_))); clear h1 K1
  refine ok_seq fun K3 h3 => ?_
  refine ok_seq fun K4 h4 => ok_region rfl (q_mp 1000 0 rfl (q_dr (sa := [int 6]) 1000 (f74_ok code a seed hc (by omega) 6 (by omega)) cl74 rfl rfl rfl rfl rfl (fun s a1 seed1 hs ha1 ha2 hc1 => ?_)))
  obtain ⟨x, rfl, hx0, hx1⟩ := hs
  have hx1 := hx1 (by omega)
  refine q_add rfl rfl (by omega) (q_as _ rfl (run_nil (h4 _ ?_))); clear h4 K4
  obtain ⟨N, hN⟩ : ∃ N : Nat, 1 + x = N := ⟨(1 + x).toNat, by omega⟩
  rw [hN]
  refine ok_block ?_
  refine ok_loop (fun (v : Nat × List UInt8 × Int × Int) => ⟨[(0, .ptr 1000 0), (3, .own 3), (4, .sv (int v.1))], [(3, .row 1 5 (v.2.1.map byteSV)), (1000, curB code v.2.2.1 v.2.2.2)]⟩) (fun v => v.1 ≤ 6 ∧ v.2.1.length + v.1 ≤ 6 ∧ a ≤ v.2.2.1 ∧ v.2.2.1 + 2 * v.1 ≤ a + 14 ∧ CurOk code v.2.2.1 v.2.2.2) (fun v => v.1) (N, [], a1, seed1) ⟨by simp only; omega, by simp; omega, by simp only; omega, by simp only; omega, hc1⟩ (le_sub ⟨rfl, rfl, rfl, trivial⟩ ⟨rfl, rfl, trivial⟩) (fun v J => ?_)
  obtain ⟨n, q, a2, seed2⟩ := v
  obtain ⟨j1, j2, j3, j4, j5⟩ := J
  simp only at j1 j2 j3 j4 j5
  refine ok_seq fun K5 h5 => ?_
  refine ok_seq fun K6 h6 => ok_region rfl (q_mv _ rfl (q_bin _ _ _ rfl rfl rfl (run_nil (h6 _ ?_)))); clear h6 K6
  refine ok_cond rfl (fun c7 => ?_) (fun c7 => ?_)
  · have hn0 : 0 < n := by simpa using c7
    refine ok_skip (h5 _ ?_)
    refine ok_seq fun K8 h8 => ?_
    refine ok_block ?_
    refine ok_last fun K9 h9 => ok_region rfl (q_mo 3 rfl (q_mp 1000 0 rfl (q_dr (sa := [int 17]) 1000 (f74_ok code a2 seed2 j5 (by omega) 17 (by omega)) cl74 rfl rfl rfl rfl rfl (fun s a3 seed3 hs hb1 hb2 hc3 => ?_))))
    obtain ⟨y, rfl, hy0, hy1⟩ := hs
    have hy1 := hy1 (by omega)
    obtain ⟨b, hb⟩ : ∃ b, (⟨#[97, 98, 42, 63, 124, 92, 34, 123, 125, 61, 126, 44, 32, 48, 57, 120, 95]⟩ : ByteArray)[y.toNat]? = some b := ⟨_, getElem?_pos _ _ (by show y.toNat < 17; omega)⟩
    refine q_ix st9 rfl rfl hy0 hb (q_lit1 _ (byteSV b) el22 ze5 (by decide) (by decide) rfl (.inr rfl) rfl (q_app (q := [byteSV b]) _ el22 ze5 rfl by5 rfl rfl rfl rfl rfl (by simp) (by intro s hs; simp at hs; subst hs; exact .inr rfl) (by rw [List.length_map]; show q.length + 1 ≤ maxLen; unfold maxLen; omega) (by rw [List.length_map]; show (q.length + 1) * 1 ≤ _; omega) (q_ao _ rfl (run_nil (h9 _ (h8 _ ?_))))))
    refine ok_last fun K10 h10 => ok_region rfl (q_mv _ rfl (q_sub rfl rfl (by omega) (q_as _ rfl (run_nil (h10 _ ⟨(n - 1, q ++ [b], a3, seed3), by simp only; omega, ⟨by simp only; omega, by simp; omega, by simp only; omega, by simp only; omega, hc3⟩, ?_⟩)))))
    rw [show (n : Int) - 1 = ((n - 1 : Nat) : Int) by omega, List.map_append]
    exact le_rek 3 17 ⟨rfl, rfl, rfl, trivial⟩ ⟨rfl, rfl, trivial⟩ rfl rfl rfl rfl ⟨rfl, rfl, trivial⟩
  · refine ok_exit (h3 _ ?_)
    refine ok_seq fun K11 h11 => ok_region rfl (q_mo 3 rfl (q_cvo (bs := q) Try.underlying22 Try.underlying5 u9 rfl rfl (q_as _ rfl (run_nil (h11 _ ?_)))))
    refine Ok.le (σ' := ⟨[(2, .sv (.raw (.string ⟨q.toArray⟩)))], [(1000, curB code a2 seed2)]⟩) (le_sub ⟨rfl, trivial⟩ ⟨rfl, trivial⟩) ?_
    exact ok_ret ⟨_, _, ⟨_, _, rfl, rfl, rfl⟩, rfl, _, a2, seed2, rfl, ⟨_, rfl, by show q.toArray.size ≤ 6; simp; omega⟩, j3, by omega, j5, rfl⟩
theorem f65_ok (code : List UInt8) (a seed : Int) (hc : CurOk code a seed) (ha : a ≤ 700000000000000) : PFnB Try.prog 65 [.ptr 1000 0] [(1000, curB code a seed)] [1000] (Dr code a 20 (Tx 10)) := by
  refine fnb_ok (n := 12) Try.func65 rfl rfl rfl (Nat.le_of_ble_eq_true rfl) rfl rfl fun w0 O M ρ => ?_
  refine ok_seq fun K1 h1 => ok_region rfl (q_as _ rfl (run_nil (h1 _ ?_))); clear h1 K1
  let ls : List ByteArray := [⟨#[42]⟩, ⟨#[97, 42]⟩, ⟨#[42, 98]⟩, ⟨#[97, 124, 98]⟩, ⟨#[97, 112, 105, 124, 100, 98]⟩, ⟨#[63]⟩, ⟨#[49, 42, 124, 97]⟩, ⟨#[]⟩, ⟨#[42, 97, 42]⟩, ⟨#[92, 42]⟩, ⟨#[97, 63, 105]⟩, ⟨#[63, 63, 124, 42, 48]⟩, ⟨#[124, 97]⟩, ⟨#[42, 45, 42, 124, 42]⟩]
  have hall : ∀ x ∈ ls, x.size ≤ 10 := by
    intro x hx
    simp only [ls, List.mem_cons, List.not_mem_nil, or_false] at hx
    rcases hx with h | h | h | h | h | h | h | h | h | h | h | h | h | h <;> subst h <;> decide
  refine ok_seq fun K1 h1 => ok_region rfl (q_mp 1000 0 rfl (q_lit _ (ls.map str) el27 ze9 (by decide) rfl (by decide) rfl rfl (by intro s hs; obtain ⟨x, _, rfl⟩ := List.mem_map.1 hs; exact ⟨.inr rfl, rfl⟩) (q_dr (sa := [.sl 1 (ls.map str)]) 1000 (f63_ok code a seed hc (by omega) ls (by decide) (by decide)) cl63 rfl rfl rfl rfl rfl (fun s a1 seed1 hs ha1 ha2 hc1 => ?_))))
  obtain ⟨p, hp, rfl⟩ := hs
  have hp1 := hall p hp
  refine q_as _ rfl (run_nil (h1 _ ?_)); clear h1 K1
  refine ok_seq_join (fun (v : ByteArray × Int × Int) => ⟨[(0, .ptr 1000 0), (3, .sv (str v.1))], [(1000, curB code v.2.1 v.2.2)]⟩) (fun v => v.1.size ≤ 10 ∧ a ≤ v.2.1 ∧ v.2.1 ≤ a + 20 ∧ CurOk code v.2.1 v.2.2) ?_ (fun v J => ?_)
  · refine ok_seq fun K2 h2 => ok_region rfl (q_mp 1000 0 rfl (q_dr (sa := [int 8]) 1000 (f64_ok code a1 seed1 hc1 (by omega) 8 (by omega)) cl64 rfl rfl rfl rfl rfl (fun s a2 seed2 hs hb1 hb2 hc2 => ?_)))
    obtain ⟨b, rfl⟩ := hs
    refine run_nil (h2 _ ?_); clear h2 K2
    refine ok_cond rfl (fun c => ?_) (fun c => ?_)
    · refine ok_last fun K3 h3 => ok_region rfl (q_mp 1000 0 rfl (q_dr (sa := []) 1000 (f152_ok code a2 seed2 hc2 (by omega)) cl152 rfl rfl rfl rfl rfl (fun s a3 seed3 hs hd1 hd2 hc3 => ?_)))
      obtain ⟨x, rfl, hx⟩ := hs
      refine q_as _ rfl (run_nil (h3 _ ?_))
      exact ⟨(x, a3, seed3), ⟨by simp only; omega, by simp only; omega, by simp only; omega, hc3⟩, le_sub ⟨rfl, rfl, trivial⟩ ⟨rfl, trivial⟩⟩
    · exact ok_skip ⟨(p, a2, seed2), ⟨hp1, by simp only; omega, by simp only; omega, hc2⟩, le_sub ⟨rfl, rfl, trivial⟩ ⟨rfl, trivial⟩⟩
  · obtain ⟨x, a3, seed3⟩ := v
    obtain ⟨j1, j2, j3, j4⟩ := J
    refine ok_seq fun K3 h3 => ok_region rfl (q_mv (str x) rfl (q_as _ rfl (run_nil (h3 _ ?_))))
    exact ok_ret ⟨_, _, ⟨_, _, rfl, rfl, rfl⟩, rfl, _, a3, seed3, rfl, ⟨x, rfl, j1⟩, j2, j3, j4, rfl⟩
end Go.Ring
