/- A cursor over bytes: the next number, a pick, one of some texts. No condition beyond the lengths. -/
import Derived.Test.YtgofadkgmogbgaaFacts
import Derived.Test.YtgofadkgmogbgaaEg3
import Derived.Test.YtgofadkgmogbgaaEg2
import Derived.Lib.VarintBits
set_option maxRecDepth 100000
set_option linter.unusedVariables false
set_option linter.unusedSimpArgs false
namespace Go.Ring
open Go Go.RowKit Go.Eager Go.Abs Go.Proofs
@[reducible] def eCode (code : List UInt8) : SV := .sl 1 (code.map byteSV)
theorem sz113 : szOf Try.prog 113 = some 1 := by kernel_rfl
/-- A cursor that is lent. -/
@[reducible] def curB (code : List UInt8) (at_ seed : Int) : Ent := .box [.sv (eCode code), .sv (int at_), .sv (.raw (.int .u64 seed))]
/-- It stands somewhere, not too far. -/
def CurOk (code : List UInt8) (at_ seed : Int) : Prop := code.length ≤ 1048576 ∧ 0 ≤ at_ ∧ 0 ≤ seed ∧ seed ≤ 18446744073709551615
/-- What a function of a cursor hands back: R of it; the cursor has gone on by at most m. -/
def Dr (code : List UInt8) (at_ : Int) (m : Int) (R : SV → Prop) : LV → List (Nat × Ent) → Prop := fun r h' => ∃ (s : SV) (a' seed' : Int), r = .sv s ∧ R s ∧ at_ ≤ a' ∧ a' ≤ at_ + m ∧ CurOk code a' seed' ∧ h' = [(1000, curB code a' seed')]
theorem wrap_u64_range (n : Int) : 0 ≤ IntKind.u64.wrap n ∧ IntKind.u64.wrap n ≤ 18446744073709551615 := by rw [IntKind.wrap_u64]; omega
theorem get_byte {code : List UInt8} {i : Nat} {b : UInt8} (h : code[i]? = some b) : (code.map byteSV)[i]? = some (byteSV b) := by rw [List.getElem?_map, h]; rfl
theorem f159_ok (code : List UInt8) (at_ seed : Int) (hc : CurOk code at_ seed) (ha : at_ ≤ 1000000000000000) : PFnB Try.prog 159 [.ptr 1000 0] [(1000, curB code at_ seed)] [1000] (Dr code at_ 1 fun s => ∃ x : Int, s = int x ∧ 0 ≤ x ∧ x ≤ 255) := by
  obtain ⟨hc1, hc2, hc3, hc4⟩ := hc
  refine fnb_ok (n := 62) Try.func159 rfl rfl rfl (Nat.le_of_ble_eq_true rfl) rfl rfl fun w0 O M ρ => ?_
  refine ok_seq fun K1 h1 => ok_region rfl (q_as _ rfl (run_nil (h1 _ ?_))); clear h1 K1
  refine ok_seq fun K1 h1 => ok_region rfl (q_as _ rfl (run_nil (h1 _ ?_))); clear h1 K1
  refine ok_seq_join (fun (b : Int) => ⟨[(0, .ptr 1000 0), (3, .sv (int b))], [(1000, curB code at_ seed)]⟩) (fun b => 0 ≤ b ∧ b ≤ 255) ?_ (fun b hb => ?_)
  · refine ok_seq fun K2 h2 => ok_region_i (by kernel_rfl) (by kernel_rfl) rfl (q_mp 1000 0 rfl (q_ncp 1000 0 rfl (q_fap fd115_1 rfl (by decide) (q_ldb (.sv (int at_)) ag3 rfl rfl rfl (q_mp 1000 0 rfl (q_ncp 1000 0 rfl (q_fap fd115_0 rfl (by decide) (q_ldb (.sv (eCode code)) ag22 rfl rfl rfl (q_len eS22 rfl (q_bin _ _ _ rfl rfl rfl (run_nil (h2 _ ?_))))))))))))
    clear h2 K2
    rw [List.length_map]
    refine ok_cond rfl (fun c => ?_) (fun c => ?_)
    · have hlt : at_.toNat < code.length := by have : at_ < (code.length : Nat) := by simpa using c
                                               omega
      obtain ⟨u, hu⟩ : ∃ u, code[at_.toNat]? = some u := ⟨_, List.getElem?_eq_getElem hlt⟩
      have hur : (0 : Int) ≤ (u.toNat : Int) ∧ (u.toNat : Int) ≤ 255 := by have := u.toNat_lt; omega
      refine ok_last fun K3 h3 => ok_region_i (by kernel_rfl) (by kernel_rfl) rfl (q_mp 1000 0 rfl (q_ncp 1000 0 rfl (q_fap fd115_0 rfl (by decide) (q_ldb (.sv (eCode code)) ag22 rfl rfl rfl (q_mp 1000 0 rfl (q_ncp 1000 0 rfl (q_fap fd115_1 rfl (by decide) (q_ldb (.sv (int at_)) ag3 rfl rfl rfl (q_ia el22 rfl rfl hc2 (get_byte hu) (q_ld _ ag5 rfl rfl (q_cv (by rw [ag5]; rfl) ik3 rfl (IntWalk.i64_in _ (by omega)) (q_as _ rfl (run_nil (h3 _ ?_))))))))))))))
      exact ⟨(u.toNat : Int), hur, le_sub ⟨rfl, rfl, trivial⟩ ⟨rfl, trivial⟩⟩
    · exact ok_skip ⟨0, by omega, le_sub ⟨rfl, rfl, trivial⟩ ⟨rfl, trivial⟩⟩
  obtain ⟨hb1, hb2⟩ := hb
  refine ok_seq fun K1 h1 => ok_region rfl (q_mp 1000 0 rfl (q_ncp 1000 0 rfl (q_fap fd115_1 rfl (by decide) (q_ldb (.sv (int at_)) ag3 rfl rfl rfl (q_add rfl rfl (by omega) (q_ncp 1000 0 rfl (q_fap fd115_1 rfl (by decide) (q_st _ sz3 rfl rfl (Nat.le_of_ble_eq_true rfl) rfl ⟨_, rfl, rfl⟩ rfl (run_nil (h1 _ ?_))))))))))
  clear h1 K1
  refine ok_seq fun K1 h1 => ok_region rfl (q_mp 1000 0 rfl (q_mp 1000 0 rfl (q_ncp 1000 0 rfl (q_fap fd115_2 rfl (by decide) (q_ldb (.sv (.raw (.int .u64 seed))) ag113 rfl rfl rfl (q_bin _ _ _ rfl rfl rfl (q_mv (int b) rfl (q_cv (by rw [ag3]; rfl) ik113 rfl (IntWalk.u64_in _ (by omega)) (q_bin _ _ _ rfl rfl rfl (q_bin _ _ _ rfl rfl rfl (q_ncp 1000 0 rfl (q_fap fd115_2 rfl (by decide) (q_st _ sz113 rfl rfl (Nat.le_of_ble_eq_true rfl) rfl ⟨_, rfl, rfl⟩ rfl (run_nil (h1 _ ?_)))))))))))))))
  clear h1 K1
  generalize hs : IntKind.u64.wrap (IntKind.u64.wrap (IntKind.u64.wrap (seed * 6364136223846793005) + b) + 1442695040888963407) = seed'
  have hsr : 0 ≤ seed' ∧ seed' ≤ 18446744073709551615 := by rw [← hs]; exact wrap_u64_range _
  have hok : CurOk code (at_ + 1) seed' := ⟨hc1, by omega, hsr.1, hsr.2⟩
  refine Ok.le (σ' := ⟨[(0, .ptr 1000 0), (3, .sv (int b))], [(1000, curB code (at_ + 1) seed')]⟩) (le_sub ⟨rfl, rfl, trivial⟩ ⟨rfl, trivial⟩) ?_
  refine ok_seq fun K1 h1 => ?_
  refine ok_seq fun K2 h2 => ok_region_i (by kernel_rfl) (by kernel_rfl) rfl (q_mp 1000 0 rfl (q_ncp 1000 0 rfl (q_fap fd115_1 rfl (by decide) (q_ldb (.sv (int (at_ + 1))) ag3 rfl rfl rfl (q_mp 1000 0 rfl (q_ncp 1000 0 rfl (q_fap fd115_0 rfl (by decide) (q_ldb (.sv (eCode code)) ag22 rfl rfl rfl (q_len eS22 rfl (q_bin _ _ _ rfl rfl rfl (run_nil (h2 _ ?_))))))))))))
  clear h2 K2
  refine ok_cond rfl (fun c => ?_) (fun c => ?_)
  · refine ok_seq fun K3 h3 => ok_region rfl (q_mv (int b) rfl (q_as _ rfl (run_nil (h3 _ ?_))))
    exact ok_ret ⟨_, _, ⟨_, _, rfl, rfl, rfl⟩, rfl, int b, at_ + 1, seed', rfl, ⟨b, rfl, hb1, hb2⟩, by omega, by omega, hok, rfl⟩
  · refine ok_skip (h1 _ ?_)
    have hq : 0 ≤ seed' / 2 ^ 40 ∧ seed' / 2 ^ 40 < 2 ^ 64 := by omega
    have hm : bits .and .u64 (seed' / 2 ^ 40) 255 = seed' / 2 ^ 40 % 256 := bits_mask .u64 64 (by decide) (fun n h0 h1 => IntWalk.u64_in n (by omega)) 8 (by decide) _ hq.1 hq.2
    refine ok_seq fun K3 h3 => ok_region rfl (q_mp 1000 0 rfl (q_ncp 1000 0 rfl (q_fap fd115_2 rfl (by decide) (q_ldb (.sv (.raw (.int .u64 seed'))) ag113 rfl rfl rfl (q_bin _ _ (.int .u64 (seed' / 2 ^ 40)) rfl rfl rfl (q_bin _ _ (.int .u64 (seed' / 2 ^ 40 % 256)) rfl rfl (by rw [← hm]; rfl) (q_cv (by rw [ag113]; rfl) ik3 rfl (IntWalk.i64_in _ (by omega)) (q_as _ rfl (run_nil (h3 _ ?_))))))))))
    exact ok_ret ⟨_, _, ⟨_, _, rfl, rfl, rfl⟩, rfl, int (seed' / 2 ^ 40 % 256), at_ + 1, seed', rfl, ⟨_, rfl, by omega, by omega⟩, by omega, by omega, hok, rfl⟩
end Go.Ring
