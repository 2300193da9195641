/- The bytes of a pattern: a byte's place; a piece put behind the last alternative. No condition. -/
import Derived.Test.YtanilephcohjkaaGreatG6
import Derived.Test.YtanilephcohjkaaGreatEg3
import Derived.Lib.Bytealg
namespace Go.Abs
open Go Go.RowKit Go.Eager
set_option linter.unusedVariables false
section
variable {Γ : Ctx} {ops : Array Oper} {l : List (Oper × Nat)} {t : List (Nat × LV)} {h : List (Nat × Ent)} {K : St → Prop} {c d ty : Nat} {ps : String} {af : Array Edge} {x y : Operand}
theorem q_idxb {f : Nat} {fn : Func} {s : ByteArray} {cc : Int} {ts : Array Nat} (hf : Γ.P.funcs[f]? = some fn) (hname : (fn.name == "runtime.NumGoroutine") = false) (hb : fn.body.isNone = true) (hn : Extern.findNext fn = none) (he : Extern.find fn = some Extern.BytealgIndexByte.indexByte)
    (hx : St.ev ⟨t, h⟩ x = .sv (.raw (.string s))) (hy : St.ev ⟨t, h⟩ y = .sv (.raw (.int .u8 cc))) (hk : RunL Γ ops l ⟨(d, .sv (.raw (.int .i64 (Lib.indexByte s.data.toList cc.toNat.toUInt8)))) :: t, h⟩ K) :
    RunL Γ ops ((⟨some d, .call { callee := .value (.func f), args := #[x, y], argTypes := ts }, ty, ps, af, none⟩, c + 2) :: l) ⟨t, h⟩ K := by
  refine run_x (ext := True) rfl (by omega) (fun _ => trivial) fun a w ρ I hd => ?_
  have hrun : (execOp a.eval ⟨some d, .call { callee := .value (.func f), args := #[x, y], argTypes := ts }, ty, ps, af, none⟩).run Γ.P w = .ok (.value (.int .i64 (Lib.indexByte s.data.toList cc.toNat.toUInt8))) w := by
    have hF : a.eval (.func f) = .func (.func f) #[] #[] := rfl
    simp [execOp, resolve, hF, Deferred.ofValue, invoke, ev_raw I hx, ev_raw I hy, run_callFunc_extern hf hname hb hn he, Lib.run_indexByteString]
  unfold XOk oN
  rw [hrun]
  exact ⟨_, hk, ⟨ρ, I.put (d := some d) (by simpa [dstOk] using hd) (Rep.raw _)⟩, fun _ => Ext.refl w⟩
end
theorem any_sv (k : Nat) (l : List SV) : (l.map LV.sv).any (LV.mentions k) = false := by
  rw [List.any_eq_false]; intro x hx; simp only [List.mem_map] at hx; obtain ⟨s, _, rfl⟩ := hx; simp [LV.mentions]
theorem mapK_sv (f : Nat → Nat) (l : List SV) : (l.map LV.sv).map (LV.mapK f) = l.map LV.sv := by rw [List.map_map]; rfl
theorem ren_sv (κ : List (Nat × Nat)) (l : List SV) : (l.map LV.sv).map (ren κ) = l.map LV.sv := by rw [List.map_map]; rfl
theorem fzl_sv (k n : Nat) (q l : List SV) : (l.map LV.sv).map (fzl k n q) = l.map LV.sv := by rw [List.map_map]; rfl
theorem kn_sv (κ : List (Nat × Nat)) (l : List SV) : (l.map LV.sv).all (kn κ) = true := by
  rw [List.all_eq_true]; intro x hx; simp only [List.mem_map] at hx; obtain ⟨s, _, rfl⟩ := hx; rfl
theorem set_last {α : Type} (a : List α) (x y : α) : (a ++ [x]).set a.length y = a ++ [y] := by
  rw [List.set_append_right _ _ (Nat.le_refl _), Nat.sub_self]; rfl
theorem set_lastsv (a : List SV) (x y : LV) : (a.map LV.sv ++ [x]).set a.length y = a.map LV.sv ++ [y] := by
  have := set_last (a.map LV.sv) x y; rwa [List.length_map] at this
theorem get_lastsv (a : List SV) (x : LV) : (a.map LV.sv ++ [x])[a.length]? = some x := by
  rw [List.getElem?_append_right (by simp)]; simp
end Go.Abs
namespace Go.Ring
open Go Go.RowKit Go.Eager Go.Abs Go.Proofs
set_option maxRecDepth 100000
set_option linter.unusedVariables false
set_option linter.unusedSimpArgs false
theorem f281_ok (s : ByteArray) (c : UInt8) : PFn Tryz.prog 281 [str s, byt c] (int (Lib.indexByte s.data.toList c)) := by
  refine fn_ok' (n := 8) Tryz.func281 rfl rfl rfl (Nat.le_of_ble_eq_true rfl) rfl fun w0 O => ?_
  refine ok_seq fun K1 h1 => ok_region rfl (q_as _ rfl (run_nil (h1 _ ?_))); clear h1 K1
  refine ok_seq fun K2 h2 => ?_
  refine ok_region rfl (q_mv _ rfl (q_mv _ rfl (q_idxb (cc := c.toNat) Tryz.func285 (by decide) rfl rfl rfl rfl rfl (q_as _ rfl (run_nil (h2 _ ?_))))))
  refine ok_ret ⟨_, rfl, ?_⟩
  simp
  rfl
theorem f276_ok (s : ByteArray) (c : UInt8) : PFn Tryz.prog 276 [str s, byt c] (int (Lib.indexByte s.data.toList c)) := by
  refine fn_ok' (n := 8) Tryz.func276 rfl rfl rfl (Nat.le_of_ble_eq_true rfl) rfl fun w0 O => ?_
  refine ok_seq fun K1 h1 => ok_region rfl (q_as _ rfl (run_nil (h1 _ ?_))); clear h1 K1
  refine ok_seq fun K2 h2 => ?_
  refine ok_region rfl (q_mv _ rfl (q_mv _ rfl (q_call (f281_ok s c) cl281 rfl rfl (q_as _ rfl (run_nil (h2 _ ?_))))))
  exact ok_ret ⟨_, rfl, rfl⟩
/-- A piece of a pattern: a byte; any ones; any one. -/
def pcV (x : Int) : List SV := [.raw (.int .u8 (if x < 0 then 0 else x)), bool (x == -2), bool (x == -1)]
def pc (x : Int) : SV := .agg (pcV x)
def putH (ko kb ki : Nat) (fr : List SV) (qs : List SV) : List (Nat × Ent) := [(kb, .box [.own ko]), (ko, .rowl 281 (fr.map .sv ++ [.own ki])), (ki, .row 3 280 qs)]
theorem f275_ok (fr : List SV) (qs : List SV) (x : Int) (hf : fr.length ≤ 1048576) (hq : qs.length ≤ 1048576) : PFnB Tryz.prog 275 [.sv (pc x), .ptr 1001 0] (putH 1002 1001 1003 fr qs) [1001] fun r h' => r = .sv (.tup []) ∧ h' = putH 1002 1001 1003 fr (qs ++ [pc x]) := by
  refine fnb_ok (n := 17) Tryz.func275 rfl rfl rfl (Nat.le_of_ble_eq_true rfl) rfl rfl fun w0 O M ρ => ?_
  refine ok_seq fun K1 h1 => ok_region rfl (q_boxs _ rfl (Nat.succ_pos _) (run_nil (h1 _ ?_))); clear h1 K1
  have hlen : (fr.map LV.sv ++ [LV.own 1003]).length = fr.length + 1 := by simp
  refine ok_lastL fun K2 h2 => ok_region_x 1003 rfl (by kernel_rfl) (by kernel_rfl) rfl fun v0 => ?_
  refine x_ldb (ki := 1003) (.own 1002) rfl rfl rfl ag257 rfl rfl rfl ?_
  refine x_ldb (ki := 1003) (.own 1002) rfl rfl rfl ag257 rfl rfl rfl ?_
  refine x_lenl eS257 rfl rfl ?_
  rw [hlen]
  refine x_sub rfl rfl (by omega) ?_
  rw [show (((fr.length + 1 : Nat) : Int) - 1) = (fr.length : Nat) by omega]
  refine x_ldb (ki := 1003) (.own 1002) rfl rfl rfl ag257 rfl rfl rfl ?_
  refine x_ldb (ki := 1003) (.own 1002) rfl rfl rfl ag257 rfl rfl rfl ?_
  refine x_lenl eS257 rfl rfl ?_
  rw [hlen]
  refine x_sub rfl rfl (by omega) ?_
  rw [show (((fr.length + 1 : Nat) : Int) - 1) = (fr.length : Nat) by omega]
  refine x_ial el257 rfl rfl rfl rfl (by omega) (by rw [hlen]; simp) ?_
  rw [Int.toNat_natCast]
  refine x_ldl (ki := 1003) (.own 1003) rfl rfl rfl ag281 rfl rfl (get_lastsv fr _) ?_
  refine x_lds (ki := 1003) (pcV x) rfl rfl rfl ag280 rfl sz280 rfl ?_
  refine x_x rfl (by show 1 < 3; omega) (fun a w ρ I hd => ok_buildSlice (l := [pc x]) I rfl hd el281 ze280 (by omega) rfl (by omega) rfl rfl (by simp [pc, pcV, SV.cells]) ?_)
  refine x_app _ el281 ze280 rfl by280 rfl rfl rfl (by simp [St.free, Ent.mentions, LV.mentions, any_sv, putH, St.put]) rfl rfl (by simp) (by simp [pc]) (by simp [maxLen]; omega) (by simp; omega) ?_
  refine x_ial el257 rfl rfl rfl rfl (by omega) (by rw [hlen]; simp) ?_
  rw [Int.toNat_natCast]
  refine x_a rfl (fun a w ρ I hd => ok_store_rowl (lv := .own 15) I rfl hd rfl rfl (by rw [hlen]; simp) (by kernel_rfl) (I.ev (.tmp 15)) ?_ ?_)
  · have hY : a.tmps.getD 15 undef = ρ 15 := I.ev (.tmp 15)
    obtain ⟨hz, xs, vals, hown, _⟩ := I.ent 15 _ rfl
    show (a.tmps.getD 15 undef).oneCell' = true
    rw [hY]
    rcases hown.2 with ⟨h0, _⟩ | ⟨g, cap, cur, h0, _⟩ <;> rw [h0] <;> rfl
  · rw [set_lastsv]
    refine x_nil (h2 _ _ (le_rn 1003 15 ?_ rfl rfl) ⟨[], .sv (.tup []), rfl, rfl, rfl, ?_⟩)
    · show ([(1001, Ent.box [.own 1002]), (1002, .rowl 281 (fr.map .sv ++ [.own 15])), (15, .row 3 280 (qs ++ [pc x]))] : List (Nat × Ent)).all (fun p => !p.2.mentions 1003) = true
      simp [Ent.mentions, LV.mentions, any_sv]
    · show mapH (rn 15 1003) [(1001, Ent.box [.own 1002]), (1002, .rowl 281 (fr.map .sv ++ [.own 15])), (15, .row 3 280 (qs ++ [pc x]))] = _
      simp [mapH, rn, Ent.mapK, LV.mapK, putH, mapK_sv]
end Go.Ring
