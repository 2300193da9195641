/- Picks of a cursor. No condition beyond the lengths. -/
import Derived.Test.YtgofadkgmogbgaaD1
set_option maxRecDepth 100000
set_option linter.unusedVariables false
set_option linter.unusedSimpArgs false
namespace Go.Ring
open Go Go.RowKit Go.Eager Go.Abs Go.Proofs
theorem ren_svs {κ : List (Nat × Nat)} : ∀ l : List SV, (l.map LV.sv).map (ren κ) = l.map LV.sv
  | [] => rfl
  | s :: l => by rw [List.map_cons, List.map_cons, ren_svs l]; rfl
section
variable {Γ : Ctx} {ops : Array Oper} {l : List (Oper × Nat)} {t : List (Nat × LV)} {h : List (Nat × Ent)} {K : St → Prop} {c d ty : Nat} {ps : String} {af : Array Edge} {x y : Operand}
/-- A call of a function of the cursor. -/
theorem q_dr {f : Nat} {args : Array Operand} {ts : Array Nat} {sa : List SV} {code : List UInt8} {a seed m : Int} {R : SV → Prop} {h2 : List (Nat × Ent)} (kc : Nat) (hc : PFnB Γ.P f (.ptr 1000 0 :: sa.map .sv) [(1000, curB code a seed)] [1000] (Dr code a m R)) (hcl : Calb Γ.P f)
    (ha : args.toList.map (St.ev ⟨t, h⟩) = .ptr kc 0 :: sa.map .sv) (hh : h.lookup kc = some (curB code a seed)) (hr : restH [(1000, kc)] h = h2) (hu : h2.all (fun p => unaE [(1000, kc)] [1000] p.2) = true) (ht : keepT [(1000, kc)] [1000] t = t)
    (hk : ∀ (s : SV) (a' seed' : Int), R s → a ≤ a' → a' ≤ a + m → CurOk code a' seed' → RunL Γ ops l ⟨(d, .sv s) :: t, (kc, curB code a' seed') :: h2⟩ K) :
    RunL Γ ops ((⟨some d, .call { callee := .value (.func f), args := args, argTypes := ts }, ty, ps, af, none⟩, 2) :: l) ⟨t, h⟩ K := by
  have hrk : rk [(1000, kc)] 1000 = kc := rfl
  refine q_callb [(1000, kc)] hc hcl (by simp [kok, kinv]) (by rw [ha, List.map_cons, ren_svs]; rfl) ⟨⟨rfl, by rw [hrk, hh]; simp [renE, ren]⟩, trivial⟩ (by rw [hr]; exact hu) ⟨.inl rfl, trivial⟩ (fun r h' hR => ?_)
  obtain ⟨s, a', seed', rfl, h1, h2', h3, h4, rfl⟩ := hR
  refine ⟨by simp [knH, knE, kn, LV.keys], by simp [kn, LV.keys], ?_⟩
  have := hk s a' seed' h1 h2' h3 h4
  rw [ht, hr]
  exact this
end
theorem mod_bin (x n : Int) (h0 : 0 ≤ x) (h1 : 0 < n) : vBin .rem (.int .i64 x) (.int .i64 n) = some (.int .i64 (x % n)) := by
  have : x.tmod n = x % n := Int.tmod_eq_emod_of_nonneg h0
  simp [vBin, vInt, this, show n ≠ 0 by omega]
def Pk (n : Int) : SV → Prop := fun s => ∃ x : Int, s = int x ∧ 0 ≤ x ∧ (1 ≤ n → x < n)
theorem f74_ok (code : List UInt8) (a seed : Int) (hc : CurOk code a seed) (ha : a ≤ 900000000000000) (n : Int) (hn : n ≤ 4611686018427387904) : PFnB Try.prog 74 [.ptr 1000 0, .sv (int n)] [(1000, curB code a seed)] [1000] (Dr code a 2 (Pk n)) := by
  refine fnb_ok (n := 20) Try.func74 rfl rfl rfl (Nat.le_of_ble_eq_true rfl) rfl rfl fun w0 O M ρ => ?_
  refine ok_seq fun K1 h1 => ok_region rfl (q_as _ rfl (run_nil (h1 _ ?_))); clear h1 K1
  refine ok_seq fun K1 h1 => ?_
  refine ok_seq fun K2 h2 => ok_region rfl (q_mv (int n) rfl (q_bin _ _ _ rfl rfl rfl (run_nil (h2 _ ?_))))
  clear h2 K2
  refine ok_cond rfl (fun c => ?_) (fun c => ?_)
  · refine ok_seq fun K3 h3 => ok_region rfl (q_as _ rfl (run_nil (h3 _ ?_)))
    exact ok_ret ⟨_, _, ⟨_, _, rfl, rfl, rfl⟩, rfl, int 0, a, seed, rfl, ⟨0, rfl, by omega, by omega⟩, by omega, by omega, hc, rfl⟩
  · have hn1 : 1 < n := by have : ¬ n ≤ 1 := by simpa using c
                           omega
    refine ok_skip (h1 _ ?_); clear h1 K1
    refine ok_seq fun K1 h1 => ok_region rfl (q_mp 1000 0 rfl (q_dr (sa := []) 1000 (f159_ok code a seed hc (by omega)) cl159 rfl rfl rfl rfl rfl (fun s a1 seed1 hs ha1 ha2 hc1 => ?_)))
    obtain ⟨x, rfl, hx0, hx1⟩ := hs
    refine q_as _ rfl (run_nil (h1 _ ?_)); clear h1 K1
    refine ok_seq_join (fun (v : Int × Int × Int) => ⟨[(0, .ptr 1000 0), (1, .sv (int n)), (5, .sv (int v.1))], [(1000, curB code v.2.1 v.2.2)]⟩) (fun v => 0 ≤ v.1 ∧ v.1 ≤ 1000000 ∧ a ≤ v.2.1 ∧ v.2.1 ≤ a + 2 ∧ CurOk code v.2.1 v.2.2) ?_ (fun v J => ?_)
    · refine ok_seq fun K2 h2 => ok_region rfl (q_mv (int n) rfl (q_bin _ _ _ rfl rfl rfl (run_nil (h2 _ ?_))))
      clear h2 K2
      refine ok_cond rfl (fun c => ?_) (fun c => ?_)
      · refine ok_last fun K3 h3 => ok_region rfl (q_mv (int x) rfl (q_mul rfl rfl (by omega) (q_mp 1000 0 rfl (q_dr (sa := []) 1000 (f159_ok code a1 seed1 hc1 (by omega)) cl159 rfl rfl rfl rfl rfl (fun s a2 seed2 hs hb1 hb2 hc2 => ?_)))))
        obtain ⟨y, rfl, hy0, hy1⟩ := hs
        refine q_add rfl rfl (by omega) (q_as _ rfl (run_nil (h3 _ ?_)))
        exact ⟨(x * 256 + y, a2, seed2), ⟨by simp only; omega, by simp only; omega, by simp only; omega, by simp only; omega, hc2⟩, le_sub ⟨rfl, rfl, rfl, trivial⟩ ⟨rfl, trivial⟩⟩
      · exact ok_skip ⟨(x, a1, seed1), ⟨by simp only; omega, by simp only; omega, by simp only; omega, by simp only; omega, hc1⟩, le_sub ⟨rfl, rfl, rfl, trivial⟩ ⟨rfl, trivial⟩⟩
    · obtain ⟨z, a2, seed2⟩ := v
      obtain ⟨j1, j2, j3, j4, j5⟩ := J
      simp only at j1 j2 j3 j4 j5
      refine ok_seq fun K3 h3 => ok_region rfl (q_mv (int z) rfl (q_mv (int n) rfl (q_bin _ _ (.int .i64 (z % n)) rfl rfl (mod_bin z n j1 (by omega)) (q_as _ rfl (run_nil (h3 _ ?_))))))
      exact ok_ret ⟨_, _, ⟨_, _, rfl, rfl, rfl⟩, rfl, int (z % n), a2, seed2, rfl, ⟨_, rfl, Int.emod_nonneg _ (by omega), fun _ => Int.emod_lt_of_pos _ (by omega)⟩, j3, j4, j5, rfl⟩
theorem f64_ok (code : List UInt8) (a seed : Int) (hc : CurOk code a seed) (ha : a ≤ 900000000000000) (n : Int) (hn : n ≤ 4611686018427387904) : PFnB Try.prog 64 [.ptr 1000 0, .sv (int n)] [(1000, curB code a seed)] [1000] (Dr code a 2 fun s => ∃ b, s = bool b) := by
  refine fnb_ok (n := 9) Try.func64 rfl rfl rfl (Nat.le_of_ble_eq_true rfl) rfl rfl fun w0 O M ρ => ?_
  refine ok_seq fun K1 h1 => ok_region rfl (q_as _ rfl (run_nil (h1 _ ?_))); clear h1 K1
  refine ok_seq fun K1 h1 => ok_region rfl (q_mp 1000 0 rfl (q_mv (int n) rfl (q_dr (sa := [int n]) 1000 (f74_ok code a seed hc ha n hn) cl74 rfl rfl rfl rfl rfl (fun s a1 seed1 hs ha1 ha2 hc1 => ?_))))
  obtain ⟨x, rfl, hx0, hx1⟩ := hs
  refine q_bin _ _ _ rfl rfl rfl (q_as _ rfl (run_nil (h1 _ ?_)))
  exact ok_ret ⟨_, _, ⟨_, _, rfl, rfl, rfl⟩, rfl, _, a1, seed1, rfl, ⟨_, rfl⟩, ha1, ha2, hc1, rfl⟩
/-- One of some texts. -/
def Of (ls : List ByteArray) : SV → Prop := fun s => ∃ x, x ∈ ls ∧ s = str x
theorem f63_ok (code : List UInt8) (a seed : Int) (hc : CurOk code a seed) (ha : a ≤ 900000000000000) (ls : List ByteArray) (h0 : 0 < ls.length) (hl : ls.length ≤ 1000) : PFnB Try.prog 63 [.ptr 1000 0, .sv (.sl 1 (ls.map str))] [(1000, curB code a seed)] [1000] (Dr code a 2 (Of ls)) := by
  refine fnb_ok (n := 12) Try.func63 rfl rfl rfl (Nat.le_of_ble_eq_true rfl) rfl rfl fun w0 O M ρ => ?_
  refine ok_seq fun K1 h1 => ok_region rfl (q_as _ rfl (run_nil (h1 _ ?_))); clear h1 K1
  refine ok_seq fun K1 h1 => ok_region rfl (q_mv (.sl 1 (ls.map str)) rfl (q_mp 1000 0 rfl (q_mv (.sl 1 (ls.map str)) rfl (q_len eS27 rfl (q_dr (sa := [int (ls.map str).length]) 1000 (f74_ok code a seed hc ha _ (by rw [List.length_map]; omega)) cl74 rfl rfl rfl rfl rfl (fun s a1 seed1 hs ha1 ha2 hc1 => ?_))))))
  obtain ⟨x, rfl, hx0, hx1⟩ := hs
  rw [List.length_map] at hx1
  obtain ⟨u, hu⟩ : ∃ u, ls[x.toNat]? = some u := ⟨_, List.getElem?_eq_getElem (by omega)⟩
  refine q_ia el27 rfl rfl hx0 (mget (f := str) hu) (q_ld _ ag9 rfl rfl (q_as _ rfl (run_nil (h1 _ ?_))))
  exact ok_ret ⟨_, _, ⟨_, _, rfl, rfl, rfl⟩, rfl, _, a1, seed1, rfl, ⟨u, smem hu, rfl⟩, ha1, ha2, hc1, rfl⟩
end Go.Ring
