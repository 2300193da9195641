/- A text's bytes mixed to a number. No condition. -/
import Derived.Test.YtpgeelolelpfcaaG11
import Derived.Test.YtpgeelolelpfcaaAbsStr
namespace Go.Ring
open Go Go.RowKit Go.Eager Go.Abs Go.Proofs
set_option maxRecDepth 100000
set_option linter.unusedVariables false
set_option linter.unusedSimpArgs false
theorem wrap64r (n : Int) : 0 ≤ IntKind.u64.wrap n ∧ IntKind.u64.wrap n ≤ 18446744073709551615 := by
  have h : IntKind.u64.wrap n = n % 18446744073709551616 := by unfold IntKind.wrap; rfl
  rw [h]; omega
def mixS (h : Int) (b : UInt8) : Int :=
  bits .xor .u64 (IntKind.u64.wrap (bits .xor .u64 h (b.toNat : Int) * 1099511628211)) (IntKind.u64.wrap (bits .xor .u64 h (b.toNat : Int) * 1099511628211) / 2 ^ 29)
theorem mixS_in (h : Int) (b : UInt8) : 0 ≤ mixS h b ∧ mixS h b ≤ 18446744073709551615 := wrap64r _
def mixL : List UInt8 → Int → Int
  | [], h => h
  | b :: l, h => mixL l (mixS h b)
theorem mixL_in : ∀ (l : List UInt8) (h : Int), 0 ≤ h → h ≤ 18446744073709551615 → 0 ≤ mixL l h ∧ mixL l h ≤ 18446744073709551615
  | [], h, h0, h1 => ⟨h0, h1⟩
  | b :: l, h, _, _ => mixL_in l _ (mixS_in h b).1 (mixS_in h b).2
theorem mixL_step {l : List UInt8} {k : Nat} {b : UInt8} (hb : l[k]? = some b) (h : Int) : mixL (l.drop k) h = mixL (l.drop (k + 1)) (mixS h b) := by
  obtain ⟨hlt, he⟩ := List.getElem?_eq_some_iff.1 hb
  rw [List.drop_eq_getElem_cons hlt, he]; rfl
theorem mixL_end {l : List UInt8} {k : Nat} (hk : l.length ≤ k) (h : Int) : mixL (l.drop k) h = h := by rw [List.drop_of_length_le hk]; rfl
def mixI (l : List UInt8) : Int := mixL l 1469598103 / 2
@[reducible] def bytesV (l : List UInt8) : SV := .sl 1 (l.map byt)
@[reducible] def u64 (x : Int) : SV := .raw (.int .u64 x)
theorem half2 {n : Int} (h0 : 0 ≤ n) (h1 : n ≤ 18446744073709551615) : vBin .quo (.int .u64 n) (.int .u64 2) = some (.int .u64 (n / 2)) := by
  have h : IntKind.u64.wrap (n.tdiv 2) = n / 2 := by rw [Int.tdiv_eq_ediv_of_nonneg h0]; exact IntWalk.u64_in _ (by omega)
  simp [vBin, vInt, h]
theorem f199_ok (l : List UInt8) (hl : l.length ≤ 9223372036854775807) : PFn Try.prog 199 [bytesV l] (int (mixI l)) := by
  refine fn_ok' (n := 26) Try.func199 rfl rfl rfl (Nat.le_of_ble_eq_true rfl) rfl fun w0 O => ?_
  refine ok_seq fun K1 h1 => ok_region rfl (q_as _ rfl (run_nil (h1 _ ?_))); clear h1 K1
  refine ok_seq fun K2 h2 => ok_region rfl (q_as _ rfl (run_nil (h2 _ ?_))); clear h2 K2
  refine ok_seq fun K3 h3 => ?_
  refine ok_seq fun K4 h4 => ok_region rfl (q_mv _ rfl (q_len eS33 rfl (q_mv _ rfl (run_nil (h4 _ ?_))))); clear h4 K4
  rw [List.length_map]
  refine ok_block ?_
  refine ok_loop (fun (s : Nat × Int) => ⟨[(3, .sv (u64 s.2)), (6, .sv (bytesV l)), (7, .sv (int l.length)), (8, .sv (int s.1))], []⟩) (fun s => 0 ≤ s.2 ∧ s.2 ≤ 18446744073709551615 ∧ mixL l 1469598103 = mixL (l.drop s.1) s.2) (fun s => l.length - s.1) (0, 1469598103) ⟨by decide, by decide, rfl⟩ (le_same ⟨rfl, rfl, rfl, rfl, trivial⟩) (fun s J => ?_)
  obtain ⟨k, hv⟩ := s
  obtain ⟨j1, j2, j3⟩ := J
  simp only at j1 j2 j3
  refine ok_seq fun K5 h5 => ok_region rfl (q_bin _ _ _ rfl rfl rfl (run_nil (h5 _ ?_))); clear h5 K5
  refine ok_seq fun K6 h6 => ?_
  refine ok_cond rfl (fun c7 => ?_) (fun c7 => ?_)
  · refine ok_skip (h6 _ ?_)
    have hk : k < l.length := by simpa using c7
    obtain ⟨u, hu⟩ := sget hk
    rw [mixL_step hu] at j3
    refine ok_seq fun K8 h8 => ?_
    refine ok_block ?_
    refine ok_seq fun K9 h9 => ok_region rfl (q_ia (s := byt u) el33 rfl rfl (by omega) (mget hu) (q_ld _ ag5 rfl rfl (q_as _ rfl (run_nil (h9 _ ?_))))); clear h9 K9
    refine ok_seq fun K10 h10 => ok_region rfl (q_mv _ rfl (q_mv _ rfl (q_cv aS5 ik142 rfl (IntWalk.u64_in _ (by have := u.toNat_lt; omega)) (q_bin _ _ _ rfl rfl rfl (q_as _ rfl (run_nil (h10 _ ?_))))))); clear h10 K10
    refine ok_seq fun K11 h11 => ok_region rfl (q_mv _ rfl (q_bin _ _ _ rfl rfl rfl (q_as _ rfl (run_nil (h11 _ ?_))))); clear h11 K11
    refine ok_last fun K12 h12 => ok_region rfl (
      q_mv _ rfl (q_mv _ rfl (q_bin _ _ _ rfl rfl rfl (q_bin _ _ _ rfl rfl rfl (q_as _ rfl (run_nil (h12 _ (h8 _ ?_))))))))
    refine ok_last fun K13 h13 => ok_region rfl (
      q_add rfl rfl (by omega) (q_mv _ rfl (run_nil (h13 _ (⟨(k + 1, mixS hv u), by simp only; omega, ⟨(mixS_in hv u).1, (mixS_in hv u).2, j3⟩, le_same ⟨rfl, rfl, rfl, rfl, trivial⟩⟩)))))
  · refine ok_exit (h3 _ ?_)
    refine ok_seq fun K14 h14 => ok_region rfl (q_mv _ rfl (q_bin (.int .u64 hv) (.int .u64 2) (.int .u64 (hv / 2)) rfl rfl (half2 j1 j2) (q_cv aS142 ik3 rfl (IntWalk.i64_in _ (by omega)) (q_as _ rfl (run_nil (h14 _ ?_)))))); clear h14 K14
    refine ok_ret ⟨_, rfl, ?_⟩
    rw [mixL_end (by simpa using c7)] at j3
    rw [mixI, j3]; rfl
theorem f157_ok (l : List UInt8) (hl : l.length ≤ 9223372036854775807) : PFn Try.prog 157 [bytesV l] (int (mixI l)) := by
  refine fn_ok' (n := 26) Try.func157 rfl rfl rfl (Nat.le_of_ble_eq_true rfl) rfl fun w0 O => ?_
  refine ok_seq fun K1 h1 => ok_region rfl (q_as _ rfl (run_nil (h1 _ ?_))); clear h1 K1
  refine ok_seq fun K2 h2 => ok_region rfl (q_as _ rfl (run_nil (h2 _ ?_))); clear h2 K2
  refine ok_seq fun K3 h3 => ?_
  refine ok_seq fun K4 h4 => ok_region rfl (q_mv _ rfl (q_len eS33 rfl (q_mv _ rfl (run_nil (h4 _ ?_))))); clear h4 K4
  rw [List.length_map]
  refine ok_block ?_
  refine ok_loop (fun (s : Nat × Int) => ⟨[(3, .sv (u64 s.2)), (6, .sv (bytesV l)), (7, .sv (int l.length)), (8, .sv (int s.1))], []⟩) (fun s => 0 ≤ s.2 ∧ s.2 ≤ 18446744073709551615 ∧ mixL l 1469598103 = mixL (l.drop s.1) s.2) (fun s => l.length - s.1) (0, 1469598103) ⟨by decide, by decide, rfl⟩ (le_same ⟨rfl, rfl, rfl, rfl, trivial⟩) (fun s J => ?_)
  obtain ⟨k, hv⟩ := s
  obtain ⟨j1, j2, j3⟩ := J
  simp only at j1 j2 j3
  refine ok_seq fun K5 h5 => ok_region rfl (q_bin _ _ _ rfl rfl rfl (run_nil (h5 _ ?_))); clear h5 K5
  refine ok_seq fun K6 h6 => ?_
  refine ok_cond rfl (fun c7 => ?_) (fun c7 => ?_)
  · refine ok_skip (h6 _ ?_)
    have hk : k < l.length := by simpa using c7
    obtain ⟨u, hu⟩ := sget hk
    rw [mixL_step hu] at j3
    refine ok_seq fun K8 h8 => ?_
    refine ok_block ?_
    refine ok_seq fun K9 h9 => ok_region rfl (q_ia (s := byt u) el33 rfl rfl (by omega) (mget hu) (q_ld _ ag5 rfl rfl (q_as _ rfl (run_nil (h9 _ ?_))))); clear h9 K9
    refine ok_seq fun K10 h10 => ok_region rfl (q_mv _ rfl (q_mv _ rfl (q_cv aS5 ik142 rfl (IntWalk.u64_in _ (by have := u.toNat_lt; omega)) (q_bin _ _ _ rfl rfl rfl (q_as _ rfl (run_nil (h10 _ ?_))))))); clear h10 K10
    refine ok_seq fun K11 h11 => ok_region rfl (q_mv _ rfl (q_bin _ _ _ rfl rfl rfl (q_as _ rfl (run_nil (h11 _ ?_))))); clear h11 K11
    refine ok_last fun K12 h12 => ok_region rfl (
      q_mv _ rfl (q_mv _ rfl (q_bin _ _ _ rfl rfl rfl (q_bin _ _ _ rfl rfl rfl (q_as _ rfl (run_nil (h12 _ (h8 _ ?_))))))))
    refine ok_last fun K13 h13 => ok_region rfl (
      q_add rfl rfl (by omega) (q_mv _ rfl (run_nil (h13 _ (⟨(k + 1, mixS hv u), by simp only; omega, ⟨(mixS_in hv u).1, (mixS_in hv u).2, j3⟩, le_same ⟨rfl, rfl, rfl, rfl, trivial⟩⟩)))))
  · refine ok_exit (h3 _ ?_)
    refine ok_seq fun K14 h14 => ok_region rfl (q_mv _ rfl (q_bin (.int .u64 hv) (.int .u64 1) (.int .u64 (hv / 2)) rfl rfl (shr1 rfl) (q_cv aS142 ik3 rfl (IntWalk.i64_in _ (by omega)) (q_as _ rfl (run_nil (h14 _ ?_)))))); clear h14 K14
    refine ok_ret ⟨_, rfl, ?_⟩
    rw [mixL_end (by simpa using c7)] at j3
    rw [mixI, j3]; rfl
end Go.Ring
