/- Drawn samples: what bounds them. No condition beyond the lengths. -/
import Derived.Test.YtgofadkgmogbgaaN7
set_option maxRecDepth 100000
set_option linter.unusedVariables false
set_option linter.unusedSimpArgs false
namespace Go.Ring
open Go Go.RowKit Go.Eager Go.Abs Go.Proofs
/-- Some number. -/
def Nm : SV → Prop := fun s => ∃ x : Int, s = int x
theorem shlR (x : Int) {y : Int} (h : 0 ≤ y ∧ y ≤ 64) : vBin .shl (.int .i64 x) (.int .u64 y) = some (.int .i64 (w64 (x * 2 ^ y.toNat))) := by
  simp only [vBin]
  rw [if_pos (show 0 ≤ y ∧ y ≤ (IntKind.i64.bits : Int) from h)]; rfl
theorem shrR (x : Int) {y : Int} (h : 0 ≤ y ∧ y ≤ 64) : vBin .shr (.int .i64 x) (.int .u64 y) = some (.int .i64 (x / 2 ^ y.toNat)) := by
  simp only [vBin]
  rw [if_pos (show 0 ≤ y ∧ y ≤ (IntKind.i64.bits : Int) from h)]
theorem f98_ok (code : List UInt8) (a seed : Int) (hc : CurOk code a seed) (ha : a ≤ 900000000000000) (p q : Int) : PFnB Try.prog 98 [.ptr 1000 0, .sv (int p), .sv (int q)] [(1000, curB code a seed)] [1000] (Dr code a 2 Nm) := by
  refine fnb_ok (n := 11) Try.func98 rfl rfl rfl (Nat.le_of_ble_eq_true rfl) rfl rfl fun w0 O M ρ => ?_
  refine ok_seq fun K1 h1 => ok_region rfl (q_as _ rfl (run_nil (h1 _ ?_))); clear h1 K1
  refine ok_seq fun K1 h1 => ?_
  refine ok_seq fun K2 h2 => ok_region rfl (q_mp 1000 0 rfl (q_dr (sa := [int 2]) 1000 (f64_ok code a seed hc (by omega) 2 (by omega)) cl64 rfl rfl rfl rfl rfl (fun s a1 seed1 hs hb1 hb2 hc1 => ?_)))
  obtain ⟨b, rfl⟩ := hs
  refine run_nil (h2 _ ?_); clear h2 K2
  refine ok_cond rfl (fun c => ?_) (fun c => ?_)
  · refine ok_seq fun K3 h3 => ok_region rfl (q_mv (int p) rfl (q_as _ rfl (run_nil (h3 _ ?_))))
    exact ok_ret ⟨_, _, ⟨_, _, rfl, rfl, rfl⟩, rfl, _, a1, seed1, rfl, ⟨p, rfl⟩, hb1, hb2, hc1, rfl⟩
  · refine ok_skip (h1 _ ?_); clear h1 K1
    refine ok_seq fun K3 h3 => ok_region rfl (q_mv (int q) rfl (q_as _ rfl (run_nil (h3 _ ?_))))
    exact ok_ret ⟨_, _, ⟨_, _, rfl, rfl, rfl⟩, rfl, _, a1, seed1, rfl, ⟨q, rfl⟩, hb1, hb2, hc1, rfl⟩
theorem f160_ok (code : List UInt8) (a seed : Int) (hc : CurOk code a seed) (ha : a ≤ 900000000000000 - 10) : PFnB Try.prog 160 [.ptr 1000 0, .sv (int 4)] [(1000, curB code a seed)] [1000] (Dr code a 4 (Pk 4)) := by
  refine fnb_ok (n := 13) Try.func160 rfl rfl rfl (Nat.le_of_ble_eq_true rfl) rfl rfl fun w0 O M ρ => ?_
  refine ok_seq fun K1 h1 => ok_region rfl (q_as _ rfl (run_nil (h1 _ ?_))); clear h1 K1
  refine ok_seq fun K1 h1 => ?_
  refine ok_seq fun K2 h2 => ok_region rfl (q_mp 1000 0 rfl (q_dr (sa := [int 8]) 1000 (f64_ok code a seed hc (by omega) 8 (by omega)) cl64 rfl rfl rfl rfl rfl (fun s a1 seed1 hs hb1 hb2 hc1 => ?_)))
  obtain ⟨b, rfl⟩ := hs
  refine q_un _ _ rfl rfl (run_nil (h2 _ ?_)); clear h2 K2
  refine ok_cond rfl (fun c => ?_) (fun c => ?_)
  · refine ok_seq fun K3 h3 => ok_region rfl (q_as _ rfl (run_nil (h3 _ ?_)))
    exact ok_ret ⟨_, _, ⟨_, _, rfl, rfl, rfl⟩, rfl, int 0, a1, seed1, rfl, ⟨0, rfl, by omega, by omega⟩, hb1, by omega, hc1, rfl⟩
  · refine ok_skip (h1 _ ?_); clear h1 K1
    refine ok_seq fun K3 h3 => ok_region rfl (q_mp 1000 0 rfl (q_mv (int 4) rfl (q_sub rfl rfl (by omega) (q_dr (sa := [int 3]) 1000 (f74_ok code a1 seed1 hc1 (by omega) 3 (by omega)) cl74 rfl rfl rfl rfl rfl (fun s a2 seed2 hs hd1 hd2 hc2 => ?_)))))
    obtain ⟨x, rfl, hx0, hx1⟩ := hs
    have hx1 := hx1 (by omega)
    refine q_add rfl rfl (by omega) (q_as _ rfl (run_nil (h3 _ ?_)))
    exact ok_ret ⟨_, _, ⟨_, _, rfl, rfl, rfl⟩, rfl, int (1 + x), a2, seed2, rfl, ⟨1 + x, rfl, by omega, by omega⟩, by omega, by omega, hc2, rfl⟩
theorem f76_ok (code : List UInt8) (a seed : Int) (hc : CurOk code a seed) (ha : a ≤ 800000000000000) : PFnB Try.prog 76 [.ptr 1000 0] [(1000, curB code a seed)] [1000] (Dr code a 6 Nm) := by
  refine fnb_ok (n := 11) Try.func76 rfl rfl rfl (Nat.le_of_ble_eq_true rfl) rfl rfl fun w0 O M ρ => ?_
  refine ok_seq fun K1 h1 => ok_region rfl (q_as _ rfl (run_nil (h1 _ ?_))); clear h1 K1
  refine ok_seq fun K1 h1 => ok_region rfl (q_mp 1000 0 rfl (q_dr (sa := [int 20]) 1000 (f74_ok code a seed hc (by omega) 20 (by omega)) cl74 rfl rfl rfl rfl rfl (fun s a1 seed1 hs hb1 hb2 hc1 => ?_)))
  obtain ⟨x, rfl, hx0, hx1⟩ := hs
  have hx1 := hx1 (by omega)
  refine q_add rfl rfl (by omega) (q_lit _ [int (1 + x), int 0, int 1000000, int 1000001] el49 ze3 (by decide) rfl (by decide) rfl rfl (by simp [SV.one, SV.cells, Value.oneCell']) (q_mp 1000 0 rfl (q_dr (sa := [int 4]) 1000 (f160_ok code a1 seed1 hc1 (by omega)) cl160 rfl rfl rfl rfl rfl (fun s a2 seed2 hs hd1 hd2 hc2 => ?_))))
  obtain ⟨y, rfl, hy0, hy1⟩ := hs
  have hy1 := hy1 (by omega)
  obtain ⟨v, hv⟩ : ∃ v, ([1 + x, 0, 1000000, 1000001] : List Int)[y.toNat]? = some v := ⟨_, List.getElem?_eq_getElem (by show y.toNat < 4; omega)⟩
  refine q_ia (s := int v) el49 rfl rfl hy0 (by have := congrArg (Option.map int) hv; rw [← List.getElem?_map] at this; exact this) (q_ld _ ag3 rfl rfl (q_as _ rfl (run_nil (h1 _ ?_))))
  exact ok_ret ⟨_, _, ⟨_, _, rfl, rfl, rfl⟩, rfl, int v, a2, seed2, rfl, ⟨v, rfl⟩, by omega, by omega, hc2, rfl⟩
theorem f138_ok (code : List UInt8) (a seed : Int) (hc : CurOk code a seed) (ha : a ≤ 800000000000000) : PFnB Try.prog 138 [.ptr 1000 0] [(1000, curB code a seed)] [1000] (Dr code a 8 Nm) := by
  refine fnb_ok (n := 15) Try.func138 rfl rfl rfl (Nat.le_of_ble_eq_true rfl) rfl rfl fun w0 O M ρ => ?_
  refine ok_seq fun K1 h1 => ok_region rfl (q_as _ rfl (run_nil (h1 _ ?_))); clear h1 K1
  refine ok_seq fun K1 h1 => ok_region rfl (q_as (int 0) rfl (run_nil (h1 _ ?_))); clear h1 K1
  refine ok_seq fun K3 h3 => ?_
  refine ok_seq fun K4 h4 => ok_region rfl (q_as (int 0) rfl (run_nil (h4 _ ?_))); clear h4 K4
  refine ok_block ?_
  refine ok_loop (fun (v : Nat × Int × Int × Int) => ⟨[(0, .ptr 1000 0), (3, .sv (int v.2.1)), (4, .sv (int v.1))], [(1000, curB code v.2.2.1 v.2.2.2)]⟩) (fun v => v.1 ≤ 8 ∧ a ≤ v.2.2.1 ∧ v.2.2.1 ≤ a + v.1 ∧ CurOk code v.2.2.1 v.2.2.2) (fun v => 8 - v.1) (0, 0, a, seed) ⟨by simp only; omega, by simp only; omega, by simp only; omega, hc⟩ (le_sub ⟨rfl, rfl, rfl, trivial⟩ ⟨rfl, trivial⟩) (fun v J => ?_)
  obtain ⟨i, n, a1, seed1⟩ := v
  obtain ⟨j1, j2, j3, j4⟩ := J
  simp only at j1 j2 j3 j4
  refine ok_seq fun K5 h5 => ?_
  refine ok_seq fun K6 h6 => ok_region rfl (q_mv (int i) rfl (q_bin _ _ _ rfl rfl rfl (run_nil (h6 _ ?_)))); clear h6 K6
  refine ok_cond rfl (fun c7 => ?_) (fun c7 => ?_)
  · have hi : i < 8 := by have := of_decide_eq_true (p := (i : Int) < 8) c7; omega
    refine ok_skip (h5 _ ?_)
    refine ok_seq fun K8 h8 => ?_
    refine ok_block ?_
    refine ok_last fun K9 h9 => ok_region rfl (q_mv (int n) rfl (q_bin _ _ _ rfl rfl (shlR n (y := 8) (by omega)) (q_mp 1000 0 rfl (q_dr (sa := []) 1000 (f159_ok code a1 seed1 j4 (by omega)) cl159 rfl rfl rfl rfl rfl (fun s a2 seed2 hs hb1 hb2 hc2 => ?_)))))
    obtain ⟨x, rfl, hx0, hx1⟩ := hs
    refine q_bin _ _ _ rfl rfl rfl (q_as _ rfl (run_nil (h9 _ (h8 _ ?_))))
    exact ok_last fun K10 h10 => ok_region rfl (
      q_mv (int i) rfl (q_add rfl rfl (by omega) (q_as _ rfl (run_nil (h10 _ ⟨(i + 1, bits .or .i64 (w64 (n * 2 ^ (8 : Int).toNat)) x, a2, seed2), by simp only; omega, ⟨by simp only; omega, by simp only; omega, by simp only; omega, hc2⟩, le_sub ⟨rfl, rfl, rfl, trivial⟩ ⟨rfl, trivial⟩⟩)))))
  · refine ok_exit (h3 _ ?_)
    refine ok_seq fun K11 h11 => ok_region rfl (q_mv (int n) rfl (q_as _ rfl (run_nil (h11 _ ?_))))
    exact ok_ret ⟨_, _, ⟨_, _, rfl, rfl, rfl⟩, rfl, int n, a1, seed1, rfl, ⟨n, rfl⟩, j2, by omega, j4, rfl⟩
theorem f214_ok (code : List UInt8) (a seed : Int) (hc : CurOk code a seed) (ha : a ≤ 700000000000000) : PFnB Try.prog 214 [.ptr 1000 0] [(1000, curB code a seed)] [1000] (Dr code a 20 Nm) := by
  refine fnb_ok (n := 38) Try.func214 rfl rfl rfl (Nat.le_of_ble_eq_true rfl) rfl rfl fun w0 O M ρ => ?_
  refine ok_seq fun K1 h1 => ok_region rfl (q_as _ rfl (run_nil (h1 _ ?_))); clear h1 K1
  refine ok_seq fun K1 h1 => ok_region rfl (q_mp 1000 0 rfl (q_dr (sa := [int 5]) 1000 (f74_ok code a seed hc (by omega) 5 (by omega)) cl74 rfl rfl rfl rfl rfl (fun s a1 seed1 hs hb1 hb2 hc1 => ?_)))
  obtain ⟨n, rfl, -, -⟩ := hs
  refine q_as _ rfl (run_nil (h1 _ ?_)); clear h1 K1
  refine ok_seq_join (fun (v : Int × Int × Int) => ⟨[(0, .ptr 1000 0), (3, .sv (int v.1))], [(1000, curB code v.2.1 v.2.2)]⟩) (fun v => a ≤ v.2.1 ∧ v.2.1 ≤ a + 16 ∧ CurOk code v.2.1 v.2.2) ?_ (fun v J => ?_)
  · refine ok_seq fun K3 h3 => ok_region rfl (q_mp 1000 0 rfl (q_dr (sa := [int 8]) 1000 (f74_ok code a1 seed1 hc1 (by omega) 8 (by omega)) cl74 rfl rfl rfl rfl rfl (fun s a2 seed2 hs hd1 hd2 hc2 => ?_)))
    obtain ⟨x, rfl, -, -⟩ := hs
    refine run_nil (h3 _ ?_); clear h3 K3
    refine ok_block ?_
    refine ok_seq fun K4 h4 => ok_region rfl (q_bin _ _ _ rfl rfl rfl (q_as _ rfl (run_nil (h4 _ ?_)))); clear h4 K4
    refine ok_cond rfl (fun c5 => ?_) (fun c5 => ?_)
    · refine ok_last fun K6 h6 => ok_region rfl (q_mp 1000 0 rfl (q_dr (sa := [int 300]) 1000 (f74_ok code a2 seed2 hc2 (by omega) 300 (by omega)) cl74 rfl rfl rfl rfl rfl (fun s a3 seed3 hs he1 he2 hc3 => ?_)))
      obtain ⟨y, rfl, -, -⟩ := hs
      exact q_as _ rfl (run_nil (h6 _ ⟨(y, a3, seed3), ⟨by simp only; omega, by simp only; omega, hc3⟩, le_sub ⟨rfl, rfl, trivial⟩ ⟨rfl, trivial⟩⟩))
    · refine ok_seq fun K7 h7 => ok_region rfl (q_bin _ _ _ rfl rfl rfl (q_as _ rfl (run_nil (h7 _ ?_)))); clear h7 K7
      refine ok_cond rfl (fun c8 => ?_) (fun c8 => ?_)
      · refine ok_last fun K9 h9 => ok_region rfl (q_mp 1000 0 rfl (q_dr (sa := []) 1000 (f138_ok code a2 seed2 hc2 (by omega)) cl138 rfl rfl rfl rfl rfl (fun s a3 seed3 hs he1 he2 hc3 => ?_)))
        obtain ⟨y, rfl⟩ := hs
        refine q_mp 1000 0 rfl (q_dr (sa := [int 64]) 1000 (f74_ok code a3 seed3 hc3 (by omega) 64 (by omega)) cl74 rfl rfl rfl rfl rfl (fun s a4 seed4 hs hf1 hf2 hc4 => ?_))
        obtain ⟨z, rfl, hz0, hz1⟩ := hs
        have hz1 := hz1 (by omega)
        exact q_cv (by rw [ag3]; rfl) ik228 rfl (IntWalk.u64_in _ (by omega)) (q_bin _ _ _ rfl rfl (shrR y (y := z) (by omega)) (q_as _ rfl (run_nil (h9 _ ⟨(_, a4, seed4), ⟨by simp only; omega, by simp only; omega, hc4⟩, le_sub ⟨rfl, rfl, trivial⟩ ⟨rfl, trivial⟩⟩))))
      · refine ok_seq fun K10 h10 => ok_region rfl (q_bin _ _ _ rfl rfl rfl (q_as _ rfl (run_nil (h10 _ ?_)))); clear h10 K10
        refine ok_cond rfl (fun c11 => ?_) (fun c11 => ?_)
        · refine ok_last fun K12 h12 => ok_region rfl (q_mp 1000 0 rfl (q_dr (sa := [int 64]) 1000 (f74_ok code a2 seed2 hc2 (by omega) 64 (by omega)) cl74 rfl rfl rfl rfl rfl (fun s a4 seed4 hs hf1 hf2 hc4 => ?_)))
          obtain ⟨z, rfl, hz0, hz1⟩ := hs
          have hz1 := hz1 (by omega)
          exact q_cv (by rw [ag3]; rfl) ik228 rfl (IntWalk.u64_in _ (by omega)) (q_bin _ _ _ rfl rfl (shlR 1 (y := z) (by omega)) (q_as _ rfl (run_nil (h12 _ ⟨(_, a4, seed4), ⟨by simp only; omega, by simp only; omega, hc4⟩, le_sub ⟨rfl, rfl, trivial⟩ ⟨rfl, trivial⟩⟩))))
        · refine ok_seq fun K13 h13 => ok_region rfl (q_bin _ _ _ rfl rfl rfl (q_as _ rfl (run_nil (h13 _ ?_)))); clear h13 K13
          refine ok_cond rfl (fun c14 => ?_) (fun c14 => ?_)
          · refine ok_last fun K15 h15 => ok_region rfl (q_mp 1000 0 rfl (q_dr (sa := [int 64]) 1000 (f74_ok code a2 seed2 hc2 (by omega) 64 (by omega)) cl74 rfl rfl rfl rfl rfl (fun s a4 seed4 hs hf1 hf2 hc4 => ?_)))
            obtain ⟨z, rfl, hz0, hz1⟩ := hs
            have hz1 := hz1 (by omega)
            exact q_cv (by rw [ag3]; rfl) ik228 rfl (IntWalk.u64_in _ (by omega)) (q_bin _ _ _ rfl rfl (shlR 1 (y := z) (by omega)) (q_bin _ _ _ rfl rfl rfl (q_as _ rfl (run_nil (h15 _ ⟨(_, a4, seed4), ⟨by simp only; omega, by simp only; omega, hc4⟩, le_sub ⟨rfl, rfl, trivial⟩ ⟨rfl, trivial⟩⟩)))))
          · exact ok_skip ⟨(n, a2, seed2), ⟨by simp only; omega, by simp only; omega, hc2⟩, le_sub ⟨rfl, rfl, trivial⟩ ⟨rfl, trivial⟩⟩
  · obtain ⟨n, a2, seed2⟩ := v
    obtain ⟨j1, j2, j3⟩ := J
    simp only at j1 j2 j3
    refine ok_seq_join (fun (v : Int × Int × Int) => ⟨[(3, .sv (int v.1))], [(1000, curB code v.2.1 v.2.2)]⟩) (fun v => a ≤ v.2.1 ∧ v.2.1 ≤ a + 20 ∧ CurOk code v.2.1 v.2.2) ?_ (fun v J => ?_)
    · refine ok_seq fun K16 h16 => ok_region rfl (q_mp 1000 0 rfl (q_dr (sa := [int 3]) 1000 (f64_ok code a2 seed2 j3 (by omega) 3 (by omega)) cl64 rfl rfl rfl rfl rfl (fun s a3 seed3 hs he1 he2 hc3 => ?_)))
      obtain ⟨b, rfl⟩ := hs
      refine run_nil (h16 _ ?_); clear h16 K16
      refine ok_cond rfl (fun c17 => ?_) (fun c17 => ?_)
      · exact ok_last fun K18 h18 => ok_region rfl (q_mv (int n) rfl (q_un _ _ rfl rfl (q_as _ rfl (run_nil (h18 _ ⟨(_, a3, seed3), ⟨by simp only; omega, by simp only; omega, hc3⟩, le_sub ⟨rfl, trivial⟩ ⟨rfl, trivial⟩⟩)))))
      · exact ok_skip ⟨(n, a3, seed3), ⟨by simp only; omega, by simp only; omega, hc3⟩, le_sub ⟨rfl, trivial⟩ ⟨rfl, trivial⟩⟩
    · obtain ⟨n, a3, seed3⟩ := v
      obtain ⟨i1, i2, i3⟩ := J
      refine ok_seq fun K19 h19 => ok_region rfl (q_mv (int n) rfl (q_as _ rfl (run_nil (h19 _ ?_))))
      exact ok_ret ⟨_, _, ⟨_, _, rfl, rfl, rfl⟩, rfl, int n, a3, seed3, rfl, ⟨n, rfl⟩, i1, i2, i3, rfl⟩
theorem f158_ok (code : List UInt8) (a seed : Int) (hc : CurOk code a seed) (ha : a ≤ 600000000000000) (p : Int) : PFnB Try.prog 158 [.ptr 1000 0, .sv (int p)] [(1000, curB code a seed)] [1000] (Dr code a 30 Nm) := by
  refine fnb_ok (n := 22) Try.func158 rfl rfl rfl (Nat.le_of_ble_eq_true rfl) rfl rfl fun w0 O M ρ => ?_
  refine ok_seq fun K1 h1 => ok_region rfl (q_as _ rfl (run_nil (h1 _ ?_))); clear h1 K1
  refine ok_seq fun K2 h2 => ?_
  refine ok_seq fun K3 h3 => ok_region rfl (q_mp 1000 0 rfl (q_dr (sa := [int 10]) 1000 (f74_ok code a seed hc (by omega) 10 (by omega)) cl74 rfl rfl rfl rfl rfl (fun s a1 seed1 hs hb1 hb2 hc1 => ?_)))
  obtain ⟨x, rfl, -, -⟩ := hs
  refine run_nil (h3 _ ?_); clear h3 K3
  refine ok_block ?_
  refine ok_seq fun K4 h4 => ok_region rfl (q_bin _ _ _ rfl rfl rfl (q_as _ rfl (run_nil (h4 _ ?_)))); clear h4 K4
  refine ok_cond rfl (fun c5 => ?_) (fun c5 => ?_)
  · refine ok_seq fun K6 h6 => ok_region rfl (q_mp 1000 0 rfl (q_dr (sa := []) 1000 (f214_ok code a1 seed1 hc1 (by omega)) cl214 rfl rfl rfl rfl rfl (fun s a2 seed2 hs hd1 hd2 hc2 => ?_)))
    obtain ⟨y, rfl⟩ := hs
    refine q_as _ rfl (run_nil (h6 _ ?_))
    exact ok_ret ⟨_, _, ⟨_, _, rfl, rfl, rfl⟩, rfl, int y, a2, seed2, rfl, ⟨y, rfl⟩, by omega, by omega, hc2, rfl⟩
  · refine ok_seq fun K7 h7 => ok_region rfl (q_bin _ _ _ rfl rfl rfl (q_as _ rfl (run_nil (h7 _ ?_)))); clear h7 K7
    refine ok_cond rfl (fun c8 => ?_) (fun c8 => ?_)
    · refine ok_seq fun K9 h9 => ok_region rfl (q_as (int (-9223372036854775808)) rfl (run_nil (h9 _ ?_)))
      exact ok_ret ⟨_, _, ⟨_, _, rfl, rfl, rfl⟩, rfl, int _, a1, seed1, rfl, ⟨_, rfl⟩, by omega, by omega, hc1, rfl⟩
    · refine ok_seq_join (fun (b : Bool) => ⟨[(0, .ptr 1000 0), (1, .sv (int p)), (13, .sv (bool b))], [(1000, curB code a1 seed1)]⟩) (fun _ => True) ?_ (fun b _ => ?_)
      · refine ok_seq fun K10 h10 => ok_region rfl (q_bin _ _ _ rfl rfl rfl (q_as _ rfl (run_nil (h10 _ ?_)))); clear h10 K10
        refine ok_cond rfl (fun c11 => ?_) (fun c11 => ?_)
        · exact ok_skip ⟨_, trivial, le_sub ⟨rfl, rfl, rfl, trivial⟩ ⟨rfl, trivial⟩⟩
        · exact ok_last fun K12 h12 => ok_region rfl (q_bin _ _ _ rfl rfl rfl (q_as _ rfl (run_nil (h12 _ ⟨_, trivial, le_sub ⟨rfl, rfl, rfl, trivial⟩ ⟨rfl, trivial⟩⟩))))
      · refine ok_cond rfl (fun c13 => ?_) (fun c13 => ?_)
        · refine ok_seq fun K14 h14 => ok_region rfl (q_mv (int p) rfl (q_as _ rfl (run_nil (h14 _ ?_))))
          exact ok_ret ⟨_, _, ⟨_, _, rfl, rfl, rfl⟩, rfl, int p, a1, seed1, rfl, ⟨p, rfl⟩, by omega, by omega, hc1, rfl⟩
        · refine ok_skip (h2 _ ?_); clear h2 K2
          refine ok_seq fun K15 h15 => ok_region rfl (q_mv (int p) rfl (q_mp 1000 0 rfl (q_dr (sa := [int 9]) 1000 (f74_ok code a1 seed1 hc1 (by omega) 9 (by omega)) cl74 rfl rfl rfl rfl rfl (fun s a2 seed2 hs hd1 hd2 hc2 => ?_))))
          obtain ⟨y, rfl, -, -⟩ := hs
          refine q_bin _ _ _ rfl rfl rfl (q_bin _ _ _ rfl rfl rfl (q_as _ rfl (run_nil (h15 _ ?_))))
          exact ok_ret ⟨_, _, ⟨_, _, rfl, rfl, rfl⟩, rfl, int _, a2, seed2, rfl, ⟨_, rfl⟩, by omega, by omega, hc2, rfl⟩
end Go.Ring
