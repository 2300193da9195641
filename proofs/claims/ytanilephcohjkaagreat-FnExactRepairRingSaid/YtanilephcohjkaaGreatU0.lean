/- The text of a mark. No condition. -/
import Derived.Test.YtanilephcohjkaaGreatFam
import Derived.Test.YtanilephcohjkaaGreatEg2
set_option maxRecDepth 100000
set_option linter.unusedVariables false
set_option linter.unusedSimpArgs false
namespace Go.Ring
open Go Go.RowKit Go.Eager Go.Abs Go.Proofs
@[reducible] def bsT (l : List UInt8) : ByteArray := ⟨l.toArray⟩
theorem bsT_size (l : List UInt8) : (bsT l).size = l.length := by show l.toArray.size = _; simp
theorem catT {a b : List UInt8} (h : a.length + b.length ≤ 9223372036854775807) : vBin .add (.string (bsT a)) (.string (bsT b)) = some (.string (bsT (a ++ b))) := by
  simp only [vBin, vStr, bsT_size]
  rw [if_pos h]
  have : bsT a ++ bsT b = bsT (a ++ b) := by apply ByteArray.ext; simp [ByteArray.data_append]
  rw [this]
def digs (n : Nat) (out : List UInt8) : List UInt8 := if h : n = 0 then out else digs (n / 10) (UInt8.ofNat (48 + n % 10) :: out)
termination_by n
decreasing_by omega
def markT (k : Nat) : ByteArray := bsT (109 :: digs k [])
theorem f104_ok (k : Nat) (h0 : 1 ≤ k) (hk : k ≤ 1152921504606846976) : PFn Tryz.prog 104 [int k] (str (markT k)) := by
  refine fn_ok' (n := 20) Tryz.func104 rfl rfl rfl (Nat.le_of_ble_eq_true rfl) rfl fun w0 O => ?_
  refine ok_seq fun K1 h1 => ok_region rfl (q_as _ rfl (run_nil (h1 _ ?_))); clear h1 K1
  refine ok_seq fun K2 h2 => ?_
  refine ok_seq fun K3 h3 => ok_region rfl (q_mv _ rfl (q_bin _ _ _ rfl rfl rfl (run_nil (h3 _ ?_)))); clear h3 K3
  refine ok_cond rfl (fun c4 => ?_) (fun c4 => ?_)
  · have := of_decide_eq_true c4; omega
  · refine ok_skip (h2 _ ?_)
    refine ok_seq fun K6 h6 => ok_region rfl (q_as _ rfl (run_nil (h6 _ ?_))); clear h6 K6
    refine ok_seq fun K7 h7 => ?_
    refine ok_block ?_
    refine ok_loop (fun (s : Nat × List UInt8) => ⟨[(0, .sv (int s.1)), (3, .sv (str (bsT s.2)))], []⟩) (fun s => digs k [] = digs s.1 s.2 ∧ s.2.length + s.1 ≤ k) (fun s => s.1) (k, []) ⟨rfl, by simp⟩ (le_same ⟨rfl, rfl, trivial⟩) (fun s J => ?_)
    obtain ⟨n, out⟩ := s
    obtain ⟨j1, j2⟩ := J
    simp only at j1 j2
    refine ok_seq fun K8 h8 => ?_
    refine ok_seq fun K9 h9 => ok_region rfl (q_mv _ rfl (q_bin _ _ _ rfl rfl rfl (run_nil (h9 _ ?_)))); clear h9 K9
    refine ok_cond rfl (fun c10 => ?_) (fun c10 => ?_)
    · have hn : 0 < n := by have : (0 : Int) < n := by simpa using c10
                            omega
      have hb : (48 + (n : Int) % 10) = ((UInt8.ofNat (48 + n % 10)).toNat : Int) := by
        have : (UInt8.ofNat (48 + n % 10)).toNat = (48 + n % 10) % 256 := UInt8.toNat_ofNat'
        rw [this]; omega
      have hst : digs n out = digs (n / 10) (UInt8.ofNat (48 + n % 10) :: out) := by
        conv => lhs; rw [digs]
        rw [dif_neg (by omega)]
      refine ok_skip (h8 _ ?_)
      refine ok_block ?_
      refine ok_seq fun K11 h11 => ?_
      refine ok_region rfl (q_mv _ rfl (q_mod rfl rfl (by omega) (q_add rfl rfl (by omega) (q_cv aS3 ik5 rfl (IntWalk.u8_in _ (by show 0 ≤ 48 + (n : Int) % 10 ∧ 48 + (n : Int) % 10 ≤ 255; omega)) (q_lit1 _ (byteSV (UInt8.ofNat (48 + n % 10))) el73 ze5 (by decide) (by decide) (by show LV.sv (SV.raw (Value.int IntKind.u8 (48 + (n : Int) % 10))) = LV.sv (SV.raw (Value.int IntKind.u8 ((UInt8.ofNat (48 + n % 10)).toNat : Int))); rw [hb]) (.inr rfl) rfl (q_cvf (bs := [UInt8.ofNat (48 + n % 10)]) Tryz.underlying73 Tryz.underlying5 Tryz.underlying9 rfl (
        q_mv _ rfl (q_bin _ _ _ rfl rfl (catT (by simp only [List.length_cons, List.length_nil]; omega)) (q_as _ rfl (run_nil (h11 _ ?_)))))))))))
      clear h11 K11
      refine ok_last fun K12 h12 => ok_region rfl (
        q_mv _ rfl (q_div rfl rfl (by omega) (q_as _ rfl (run_nil (h12 _ (⟨(n / 10, UInt8.ofNat (48 + n % 10) :: out), by simp only; omega, ⟨by rw [j1, hst], by simp only [List.length_cons]; omega⟩, ?_⟩))))))
      rw [show ((n : Int) / 10) = ((n / 10 : Nat) : Int) by omega]
      exact le_same ⟨rfl, rfl, trivial⟩
    · have hn : n = 0 := by have : ¬ (0 : Int) < n := by simpa using c10
                            omega
      subst hn
      have hst : digs 0 out = out := by rw [digs, dif_pos rfl]
      rw [hst] at j1
      refine ok_exit (h7 _ ?_)
      refine ok_seq fun K13 h13 => ok_region rfl (q_mv _ rfl (q_bin _ _ _ rfl rfl (catT (a := [109]) (by simp only [List.length_cons, List.length_nil]; omega)) (q_as _ rfl (run_nil (h13 _ ?_))))); clear h13 K13
      refine ok_ret ⟨_, rfl, ?_⟩
      rw [markT, j1]; rfl
def hStr (x : ByteArray) (k : Nat) : Prop := x = markT k
end Go.Ring
