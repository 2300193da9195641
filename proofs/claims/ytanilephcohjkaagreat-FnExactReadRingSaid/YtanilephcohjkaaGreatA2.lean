/- A pattern's alternatives: what the program makes of its bytes. No condition beyond the lengths. -/
import Derived.Test.YtanilephcohjkaaGreatA1
namespace Go.Ring
open Go Go.RowKit Go.Eager Go.Abs Go.Proofs
set_option maxRecDepth 100000
set_option linter.unusedVariables false
set_option linter.unusedSimpArgs false
/-- What bytes stand for: alternatives of bytes, of any one (-2), of any ones (-1). -/
def alts : List UInt8 → List Int → List (List Int) → Option (List (List Int))
  | [], now, out => some (out ++ [now])
  | [c], now, out => if c = 124 then some (out ++ [now] ++ [[]]) else if c = 42 then some (out ++ [now ++ [-1]]) else if c = 63 then some (out ++ [now ++ [-2]]) else if c = 92 then none else some (out ++ [now ++ [(c.toNat : Int)]])
  | c :: e :: l, now, out =>
    if c = 124 then alts (e :: l) [] (out ++ [now]) else if c = 42 then alts (e :: l) (now ++ [-1]) out else if c = 63 then alts (e :: l) (now ++ [-2]) out
    else if c = 92 then (if e = 42 ∨ e = 63 ∨ e = 124 ∨ e = 92 then alts l (now ++ [(e.toNat : Int)]) out else none) else alts (e :: l) (now ++ [(c.toNat : Int)]) out
theorem alts_bar (l : List UInt8) (now : List Int) (out : List (List Int)) : alts (124 :: l) now out = alts l [] (out ++ [now]) := by
  cases l <;> simp [alts]
theorem alts_star (l : List UInt8) (now : List Int) (out : List (List Int)) : alts (42 :: l) now out = alts l (now ++ [-1]) out := by
  cases l <;> simp [alts]
theorem alts_any (l : List UInt8) (now : List Int) (out : List (List Int)) : alts (63 :: l) now out = alts l (now ++ [-2]) out := by
  cases l <;> simp [alts]
theorem alts_esc0 (now : List Int) (out : List (List Int)) : alts [92] now out = none := by simp [alts]
theorem alts_esc (e : UInt8) (l : List UInt8) (now : List Int) (out : List (List Int)) : alts (92 :: e :: l) now out = if e = 42 ∨ e = 63 ∨ e = 124 ∨ e = 92 then alts l (now ++ [(e.toNat : Int)]) out else none := by
  simp [alts]
theorem alts_byte {c : UInt8} (l : List UInt8) (now : List Int) (out : List (List Int)) (h1 : c ≠ 124) (h2 : c ≠ 42) (h3 : c ≠ 63) (h4 : c ≠ 92) : alts (c :: l) now out = alts l (now ++ [(c.toNat : Int)]) out := by
  cases l <;> simp [alts, h1, h2, h3, h4]
def altS (a : List Int) : SV := .sl 3 (a.map pc)
def altsV : Option (List (List Int)) → SV
  | some out => .tup [.sl 1 (out.map altS), bool true]
  | none => .tup [.raw (.slice none 0 0), bool false]
/-- The bytes of a good pattern. -/
def patG (s : ByteArray) : Option (List (List Int)) := if (s.size : Int) ≤ 100 ∧ printedB s = true then alts s.data.toList [] [] else none
theorem pc_byte (c : UInt8) : pcV (c.toNat : Int) = [.raw (.int .u8 c.toNat), bool false, bool false] := by
  have h1 : ¬ ((c.toNat : Int) < 0) := by omega
  have h2 : ((c.toNat : Int) == -2) = false := by rw [beq_eq_false_iff_ne]; omega
  have h3 : ((c.toNat : Int) == -1) = false := by rw [beq_eq_false_iff_ne]; omega
  simp [pcV, h2, h3, h1]
theorem bp0 (c : Int) : Tryz.prog.built 280 [(0, .int .u8 c)] = some #[.int .u8 c, .bool false, .bool false] := by kernel_rfl
theorem bp1 : Tryz.prog.built 280 [(1, .bool true)] = some #[.int .u8 0, .bool true, .bool false] := by kernel_rfl
theorem bp2 : Tryz.prog.built 280 [(2, .bool true)] = some #[.int .u8 0, .bool false, .bool true] := by kernel_rfl
theorem idx_esc (e : UInt8) : decide (Lib.indexByte [42, 63, 124, 92] e < 0) = !decide (e = 42 ∨ e = 63 ∨ e = 124 ∨ e = 92) := by
  by_cases h1 : e = 42
  · subst h1; decide
  by_cases h2 : e = 63
  · subst h2; decide
  by_cases h3 : e = 124
  · subst h3; decide
  by_cases h4 : e = 92
  · subst h4; decide
  have q : ∀ a b : UInt8, b ≠ a → (a == b) = false := fun a b h => by rw [beq_eq_false_iff_ne]; exact fun e => h e.symm
  simp [Lib.indexByte, q _ _ h1, q _ _ h2, q _ _ h3, q _ _ h4, h1, h2, h3, h4]
/-- The frame of the loop. -/
def altH (out : List (List Int)) (now : List Int) : List (Nat × Ent) := putH 1002 4 1003 (out.map altS) (now.map pc)
@[reducible] def altF (s : ByteArray) (i : Nat) (now : List Int) (out : List (List Int)) : St := ⟨[(0, .sv (str s)), (4, .ptr 4 0), (5, .cfn 275 [4]), (6, .sv (int i))], altH out now⟩
theorem q_put {w0 : World} {O : Nat → Prop} {n : Nat} {ops : Array Oper} {l : List (Oper × Nat)} {t : List (Nat × LV)} {K : St → Prop} {d ty : Nat} {ps : String} {af : Array Edge} {x y : Operand} {ts : Array Nat} {out : List (List Int)} {now : List Int} (a : Int) (ho : out.length ≤ 1048576) (hn : now.length ≤ 1048576)
    (hy : ∀ h, St.ev ⟨t, h⟩ y = .cfn 275 [4]) (hx : ∀ h, St.ev ⟨t, h⟩ x = .sv (pc a)) (hk : RunL (ctx Tryz.prog w0 O n) ops l ⟨(d, .sv (.tup [])) :: keepT [(1001, 4), (1002, 1002), (1003, 1003)] [1001] t, altH out (now ++ [a])⟩ K) :
    RunL (ctx Tryz.prog w0 O n) ops ((⟨some d, .call { callee := .value y, args := #[x], argTypes := ts }, ty, ps, af, none⟩, 2) :: l) ⟨t, altH out now⟩ K := by
  refine q_callf [(1001, 4), (1002, 1002), (1003, 1003)] (f275_ok (out.map altS) (now.map pc) a (by simpa using ho) (by simpa using hn)) cl275 (hy _) ⟨⟨_, rfl⟩, trivial⟩ rfl (by simp [hx, ren, rk]) ?_ rfl ⟨.inl rfl, .inr rfl, .inr rfl, trivial⟩ ?_
  · refine ⟨⟨rfl, rfl⟩, ⟨rfl, ?_⟩, ⟨rfl, rfl⟩, trivial⟩
    show some (Ent.rowl 281 ((out.map altS).map LV.sv ++ [LV.own 1003])) = some (Ent.rowl 281 (((out.map altS).map LV.sv ++ [LV.own 1003]).map (ren [(1001, 4), (1002, 1002), (1003, 1003)])))
    rw [List.map_append, ren_sv]; rfl
  · rintro r h' ⟨rfl, rfl⟩
    refine ⟨?_, rfl, ?_⟩
    · simp [knH, putH, knE, kn_sv, kn, LV.keys]
    · have e : renH [(1001, 4), (1002, 1002), (1003, 1003)] (putH 1002 1001 1003 (out.map altS) (now.map pc ++ [pc a])) ++ restH [(1001, 4), (1002, 1002), (1003, 1003)] (altH out now) = altH out (now ++ [a]) := by
        simp [renH, putH, renE, rk, ren, ren_sv, restH, altH, kinv]
        exact ⟨rfl, rfl⟩
      rw [e]; exact hk
theorem bar_le {w0 : World} {O : Nat → Prop} {n : Nat} {out : List (List Int)} {now : List Int} {s : ByteArray} {i : Nat} :
    Le (ctx Tryz.prog w0 O n) (altF s i [] (out ++ [now])) ⟨[(0, .sv (str s)), (4, .ptr 4 0), (5, .cfn 275 [4]), (6, .sv (int i))], [(4, .box [.own 31]), (1003, .row 3 280 (now.map pc)), (31, .rowl 281 ((out.map altS).map .sv ++ [.own 1003] ++ [.sv (.raw (.slice none 0 0))]))]⟩ := by
  have L1 := le_fz (Γ := ctx Tryz.prog w0 O n) (t := [(0, .sv (str s)), (4, .ptr 4 0), (5, .cfn 275 [4]), (6, .sv (int i))]) (h := [(4, .box [.own 31]), (1003, .row 3 280 (now.map pc)), (31, .rowl 281 ((out.map altS).map .sv ++ [.own 1003] ++ [.sv (.raw (.slice none 0 0))]))]) (n := 3) (T := 280) (l := now.map pc) 1003 rfl
  rw [show fzH 1003 3 (now.map pc) [(4, .box [.own 31]), (1003, .row 3 280 (now.map pc)), (31, .rowl 281 ((out.map altS).map .sv ++ [.own 1003] ++ [.sv (.raw (.slice none 0 0))]))] = [(4, Ent.box [.own 31]), (31, .rowl 281 (((out ++ [now]).map altS).map .sv ++ [.sv (.raw (.slice none 0 0))]))] by
    show [(4, Ent.box [LV.own 31]), (31, Ent.rowl 281 (((out.map altS).map LV.sv ++ [LV.own 1003] ++ [LV.sv (.raw (.slice none 0 0))]).map (fzl 1003 3 (now.map pc))))] = _
    rw [List.map_append, List.map_append, fzl_sv]
    simp [fzl, altS]] at L1
  have L2 := le_open (Γ := ctx Tryz.prog w0 O n) (t := fzT 1003 3 (now.map pc) [(0, .sv (str s)), (4, .ptr 4 0), (5, .cfn 275 [4]), (6, .sv (int i))]) (h := [(4, Ent.box [.own 31]), (31, .rowl 281 (((out ++ [now]).map altS).map .sv ++ [.sv (.raw (.slice none 0 0))]))]) 31 ((out ++ [now]).map altS).length 1003 3 280 rfl (get_lastsv _ _) (by omega)
    (by simp [St.free, Ent.mentions, LV.mentions, any_sv, fzT]) rfl
  rw [set_lastsv] at L2
  have L3 := le_rn (Γ := ctx Tryz.prog w0 O n) (t := fzT 1003 3 (now.map pc) [(0, .sv (str s)), (4, .ptr 4 0), (5, .cfn 275 [4]), (6, .sv (int i))]) (h := ins 31 (.rowl 281 (((out ++ [now]).map altS).map .sv ++ [.own 1003])) (ins 1003 (.row 3 280 []) [(4, Ent.box [.own 31]), (31, .rowl 281 (((out ++ [now]).map altS).map .sv ++ [.sv (.raw (.slice none 0 0))]))])) 1002 31 ?_ rfl rfl
  · refine Le.trans ?_ (Le.trans L3 (Le.trans L2 L1))
    refine le_sub ⟨rfl, rfl, rfl, rfl, trivial⟩ ⟨rfl, ?_, rfl, trivial⟩
    show some (Ent.rowl 281 ((((out ++ [now]).map altS).map LV.sv ++ [LV.own 1003]).map (LV.mapK (rn 31 1002)))) = some (Ent.rowl 281 (((out ++ [now]).map altS).map LV.sv ++ [LV.own 1003]))
    rw [List.map_append, mapK_sv]; rfl
  · show ([(4, Ent.box [.own 31]), (31, .rowl 281 (((out ++ [now]).map altS).map .sv ++ [.own 1003])), (1003, .row 3 280 [])] : List (Nat × Ent)).all (fun p => !p.2.mentions 1002) = true
    simp [Ent.mentions, LV.mentions, any_sv]
/-- Where the loop begins. -/
theorem alt_begin {w0 : World} {O : Nat → Prop} {n : Nat} {s : ByteArray} : Le (ctx Tryz.prog w0 O n) (altF s 0 [] []) ⟨[(0, .sv (str s)), (4, .ptr 4 0), (5, .cfn 275 [4]), (6, .sv (int 0))], [(4, .box [.own 11]), (11, .row 1 281 [.raw (.slice none 0 0)])]⟩ := by
  have L1 := le_rowl (Γ := ctx Tryz.prog w0 O n) (t := [(0, .sv (str s)), (4, .ptr 4 0), (5, .cfn 275 [4]), (6, .sv (int 0))]) (h := [(4, .box [.own 11]), (11, .row 1 281 [.raw (.slice none 0 0)])]) (T := 281) (l := [.raw (.slice none 0 0)]) 11 rfl (by simp; rfl)
  have L2 := le_open (Γ := ctx Tryz.prog w0 O n) (t := [(0, .sv (str s)), (4, .ptr 4 0), (5, .cfn 275 [4]), (6, .sv (int 0))]) (h := ins 11 (.rowl 281 ([SV.raw (.slice none 0 0)].map .sv)) [(4, .box [.own 11]), (11, .row 1 281 [.raw (.slice none 0 0)])]) 11 0 1003 3 280 rfl rfl (by omega) rfl rfl
  have L3 := le_rn (Γ := ctx Tryz.prog w0 O n) (t := [(0, .sv (str s)), (4, .ptr 4 0), (5, .cfn 275 [4]), (6, .sv (int 0))]) (h := [(4, .box [.own 11]), (11, .rowl 281 [.own 1003]), (1003, .row 3 280 [])]) 1002 11 rfl rfl rfl
  exact Le.trans (le_sub ⟨rfl, rfl, rfl, rfl, trivial⟩ ⟨rfl, rfl, rfl, trivial⟩) (Le.trans L3 (Le.trans L2 L1))
/-- Where it ends: all is handed back. -/
theorem alt_end {w0 : World} {O : Nat → Prop} {n : Nat} {s : ByteArray} {i : Nat} {now : List Int} {out : List (List Int)} : Le (ctx Tryz.prog w0 O n) ⟨[(4, .ptr 4 0)], [(4, .box [.own 1002]), (1002, .row 1 281 ((out ++ [now]).map altS))]⟩ (altF s i now out) := by
  have L1 := le_fz (Γ := ctx Tryz.prog w0 O n) (t := (altF s i now out).t) (h := altH out now) (n := 3) (T := 280) (l := now.map pc) 1003 rfl
  rw [show fzH 1003 3 (now.map pc) (altH out now) = [(4, Ent.box [.own 1002]), (1002, .rowl 281 (((out ++ [now]).map altS).map .sv))] by
    show [(4, Ent.box [LV.own 1002]), (1002, Ent.rowl 281 (((out.map altS).map LV.sv ++ [LV.own 1003]).map (fzl 1003 3 (now.map pc))))] = _
    rw [List.map_append, fzl_sv]
    simp [fzl, altS]] at L1
  have L2 := le_rowr (Γ := ctx Tryz.prog w0 O n) (t := fzT 1003 3 (now.map pc) (altF s i now out).t) (h := [(4, Ent.box [.own 1002]), (1002, .rowl 281 (((out ++ [now]).map altS).map .sv))]) 1002 ((out ++ [now]).map altS) rfl rfl
  exact Le.trans (le_sub ⟨rfl, trivial⟩ ⟨rfl, rfl, trivial⟩) (Le.trans L2 L1)
theorem drop_cons {α : Type} {l : List α} {i : Nat} {x : α} (h : l[i]? = some x) : l.drop i = x :: l.drop (i + 1) := by
  obtain ⟨h1, h2⟩ := List.getElem?_eq_some_iff.1 h
  rw [List.drop_eq_getElem_cons h1, h2]
theorem bs4 : (⟨#[42, 63, 124, 92]⟩ : ByteArray).data.toList = [42, 63, 124, 92] := rfl
theorem ubt {b c : UInt8} (h : (b.toNat : Int) = (c.toNat : Int)) : b = c := UInt8.toNat_inj.1 (by omega)
theorem f260_ok (s : ByteArray) (hs : s.size ≤ 1048576) : PFn Tryz.prog 260 [str s] (altsV (patG s)) := by
  refine fn_ok' (n := 64) Tryz.func260 rfl rfl rfl (Nat.le_of_ble_eq_true rfl) rfl fun w0 O => ?_
  refine ok_seq fun K1 h1 => ok_region rfl (q_as _ rfl (q_as _ rfl (run_nil (h1 _ ?_)))); clear h1 K1
  refine ok_seq fun K2 h2 => ?_
  refine ok_seq fun K3 h3 => ok_region rfl (q_mv _ rfl (q_call (f227_ok s hs 100) cl227 rfl rfl (q_un _ _ rfl rfl (run_nil (h3 _ ?_))))); clear h3 K3
  refine ok_cond rfl (fun c4 => ?_) (fun c4 => ?_)
  · refine ok_seq fun K5 h5 => ?_
    refine ok_region rfl (q_as _ rfl (q_as _ rfl (run_nil (h5 _ ?_))))
    clear h5 K5
    refine ok_ret ⟨_, rfl, ?_⟩
    have : patG s = none := by
      unfold patG
      rw [if_neg]
      rintro ⟨h1, h2⟩
      simp [h1, h2] at c4
    rw [this]; rfl
  · refine ok_skip (h2 _ ?_)
    have hp : (s.size : Int) ≤ 100 ∧ printedB s = true := by simpa using c4
    have hg : patG s = alts s.data.toList [] [] := by unfold patG; rw [if_pos hp]
    have hz : s.data.toList.length = s.size := by simp
    refine ok_seq fun K6 h6 => ok_region rfl (q_lito1 _ _ el257 ze281 (by decide) (by decide) rfl rfl rfl (.inr rfl) rfl (q_alloc _ ze257 rfl rfl rfl rfl (q_sto sz257 rfl rfl (Nat.le_of_ble_eq_true rfl) rfl rfl rfl (run_nil (h6 _ ?_))))); clear h6 K6
    refine ok_seq fun K7 h7 => ok_region rfl (q_mkfo [4] rfl (q_mvf' rfl (run_nil (h7 _ ?_)))); clear h7 K7
    refine ok_seq fun K8 h8 => ?_
    refine ok_seq fun K9 h9 => ok_region rfl (q_as _ rfl (run_nil (h9 _ ?_))); clear h9 K9
    refine ok_block ?_
    refine ok_loop (fun (v : Nat × List Int × List (List Int)) => altF s v.1 v.2.1 v.2.2) (fun v => v.1 ≤ s.size ∧ v.2.1.length ≤ v.1 ∧ v.2.2.length ≤ v.1 ∧ alts (s.data.toList.drop v.1) v.2.1 v.2.2 = patG s) (fun v => s.size - v.1) (0, [], []) ⟨by simp, by simp, by simp, by rw [hg]; rfl⟩ (Le.trans alt_begin (le_sub ⟨rfl, rfl, rfl, rfl, trivial⟩ ⟨rfl, rfl, trivial⟩)) (fun v J => ?_)
    obtain ⟨k, now, out⟩ := v
    obtain ⟨j1, j2, j3, j4⟩ := J
    simp only at j1 j2 j3 j4
    refine ok_seq fun K10 h10 => ?_
    refine ok_seq fun K11 h11 => ok_region rfl (q_mv _ rfl (q_mv _ rfl (q_lens st9 rfl (q_bin _ _ _ rfl rfl rfl (run_nil (h11 _ ?_)))))); clear h11 K11
    refine ok_cond rfl (fun c12 => ?_) (fun c12 => ?_)
    · refine ok_skip (h10 _ ?_)
      have hk : k < s.size := by simpa using c12
      obtain ⟨b, hb⟩ := sget (l := s.data.toList) (i := k) (by rw [hz]; exact hk)
      have hdc := drop_cons hb
      rw [hdc] at j4
      refine ok_seq_join (fun (v : Nat × List Int × List (List Int)) => altF s v.1 v.2.1 v.2.2) (fun v => k ≤ v.1 ∧ v.1 < s.size ∧ v.2.1.length ≤ v.1 + 1 ∧ v.2.2.length ≤ v.1 + 1 ∧ alts (s.data.toList.drop (v.1 + 1)) v.2.1 v.2.2 = patG s) ?_ (fun v J => ?_)
      · refine ok_block ?_
        refine ok_seq fun K13 h13 => ok_region rfl (q_mv _ rfl (q_mv _ rfl (q_ix st9 rfl rfl (by omega) (bget hb) (q_as _ rfl (run_nil (h13 _ ?_)))))); clear h13 K13
        refine ok_seq fun K14 h14 => ok_region rfl (q_mv _ rfl (run_nil (h14 _ ?_))); clear h14 K14
        refine ok_block ?_
        refine ok_seq fun K15 h15 => ok_region rfl (q_bin _ _ _ rfl rfl rfl (q_as _ rfl (run_nil (h15 _ ?_)))); clear h15 K15
        refine ok_cond rfl (fun c16 => ?_) (fun c16 => ?_)
        · have hb1 : b = 124 := ubt (by simpa using c16)
          subst hb1
          rw [alts_bar] at j4
          refine ok_last fun K17 h17 => ok_region rfl (
            q_ldb _ ag257 rfl rfl rfl (q_lit1 _ _ el257 ze281 (by decide) (by decide) rfl (.inr rfl) rfl (q_appl _ el257 ze281 rfl by281 rfl rfl (by simp [St.free, Ent.mentions, LV.mentions, any_sv, altH, putH]) rfl rfl (by simp) (by intro s hs; simp at hs; subst hs; rfl) (by simp [maxLen]; omega) (by simp; omega) (
            q_stol sz257 rfl rfl (Nat.le_of_ble_eq_true rfl) rfl rfl rfl (run_nil (h17 _ ?_))))))
          exact ⟨(k, [], out ++ [now]), ⟨Nat.le_refl _, hk, by simp, by simp; omega, j4⟩, Le.trans bar_le (le_sub ⟨rfl, rfl, rfl, rfl, trivial⟩ ⟨rfl, rfl, rfl, trivial⟩)⟩
        · refine ok_seq fun K18 h18 => ?_
          refine ok_region rfl (q_bin _ _ _ rfl rfl rfl (q_as _ rfl (run_nil (h18 _ ?_))))
          clear h18 K18
          refine ok_cond rfl (fun c19 => ?_) (fun c19 => ?_)
          · have hb1 : b = 42 := ubt (by simpa using c19)
            subst hb1
            rw [alts_star] at j4
            refine ok_last fun K20 h20 => ok_region rfl (
              q_mvf rfl (q_bldr [(2, .bool true)] _ rfl bp2 rfl (q_put (out := out) (now := now) (-1) (by omega) (by omega) (fun _ => rfl) (fun _ => rfl) (run_nil (h20 _ ?_)))))
            exact ⟨(k, now ++ [-1], out), ⟨Nat.le_refl _, hk, by simp; omega, by simp; omega, j4⟩, le_sub ⟨rfl, rfl, rfl, rfl, trivial⟩ ⟨rfl, rfl, rfl, trivial⟩⟩
          · refine ok_seq fun K21 h21 => ?_
            refine ok_region rfl (q_bin _ _ _ rfl rfl rfl (q_as _ rfl (run_nil (h21 _ ?_))))
            clear h21 K21
            refine ok_cond rfl (fun c22 => ?_) (fun c22 => ?_)
            · have hb1 : b = 63 := ubt (by simpa using c22)
              subst hb1
              rw [alts_any] at j4
              refine ok_last fun K23 h23 => ok_region rfl (
                q_mvf rfl (q_bldr [(1, .bool true)] _ rfl bp1 rfl (q_put (out := out) (now := now) (-2) (by omega) (by omega) (fun _ => rfl) (fun _ => rfl) (run_nil (h23 _ ?_)))))
              exact ⟨(k, now ++ [-2], out), ⟨Nat.le_refl _, hk, by simp; omega, by simp; omega, j4⟩, le_sub ⟨rfl, rfl, rfl, rfl, trivial⟩ ⟨rfl, rfl, rfl, trivial⟩⟩
            · refine ok_seq fun K24 h24 => ?_
              refine ok_region rfl (q_bin _ _ _ rfl rfl rfl (q_as _ rfl (run_nil (h24 _ ?_))))
              clear h24 K24
              refine ok_cond rfl (fun c25 => ?_) (fun c25 => ?_)
              · have hb1 : b = 92 := ubt (by simpa using c25)
                subst hb1
                refine ok_seq fun K26 h26 => ?_
                refine ok_region rfl (q_mv _ rfl (q_add rfl rfl (by omega) (q_as _ rfl (run_nil (h26 _ ?_)))))
                clear h26 K26
                refine ok_seq fun K27 h27 => ?_
                refine ok_seq fun K28 h28 => ?_
                rw [show ((k : Int) + 1) = ((k + 1 : Nat) : Int) by omega]
                rcases Nat.lt_or_ge (k + 1) s.size with hk2 | hk2
                · obtain ⟨e, he⟩ := sget (l := s.data.toList) (i := k + 1) (by rw [hz]; exact hk2)
                  rw [drop_cons he, alts_esc] at j4
                  refine ok_region rfl (q_mv _ rfl (q_mv _ rfl (q_lens st9 rfl (q_bin _ _ _ rfl rfl rfl (q_mv _ rfl (q_or 5 5 rfl rfl rfl rfl rfl (fun hb56 =>
                      q_mv _ rfl (q_mv _ rfl (q_ix st9 rfl rfl (by omega) (bget he) (q_call (f276_ok _ e) cl276 rfl rfl (q_bin _ _ _ rfl rfl rfl (run_nil ⟨rfl, rfl, rfl, rfl⟩)))))) (
                    run_nil (h28 _ ?_))))))))
                  clear h28 K28
                  refine ok_cond rfl (fun c29 => ?_) (fun c29 => ?_)
                  · refine ok_seq fun K30 h30 => ?_
                    refine ok_region rfl (q_as _ rfl (q_as _ rfl (run_nil (h30 _ ?_))))
                    clear h30 K30
                    refine ok_ret ⟨_, rfl, ?_⟩
                    rw [bs4, idx_esc] at c29
                    have hne : ¬ (e = 42 ∨ e = 63 ∨ e = 124 ∨ e = 92) := by
                      intro h
                      rw [decide_eq_true h] at c29
                      simp at c29
                      omega
                    rw [if_neg hne] at j4
                    rw [← j4]; rfl
                  · refine ok_skip (h27 _ ?_)
                    rw [bs4, idx_esc] at c29
                    have hin : e = 42 ∨ e = 63 ∨ e = 124 ∨ e = 92 := by
                      by_cases q : e = 42 ∨ e = 63 ∨ e = 124 ∨ e = 92
                      · exact q
                      · rw [decide_eq_false q] at c29; simp at c29
                    rw [if_pos hin] at j4
                    refine ok_last fun K31 h31 => ok_region rfl (
                      q_mvf rfl (q_mv _ rfl (q_mv _ rfl (q_ix st9 rfl rfl (by omega) (bget he) (q_bldr [(0, .int .u8 e.toNat)] _ rfl (bp0 _) rfl (q_put (out := out) (now := now) (e.toNat : Int) (by omega) (by omega) (fun _ => rfl) (fun _ => by rw [pc, pc_byte]; rfl) (run_nil (h31 _ ?_))))))))
                    exact ⟨(k + 1, now ++ [(e.toNat : Int)], out), ⟨Nat.le_succ _, hk2, by simp; omega, by simp; omega, j4⟩, le_sub ⟨rfl, rfl, rfl, rfl, trivial⟩ ⟨rfl, rfl, rfl, trivial⟩⟩
                · have hd : s.data.toList.drop (k + 1) = [] := by rw [List.drop_eq_nil_iff, hz]; omega
                  rw [hd, alts_esc0] at j4
                  refine ok_region rfl (q_mv _ rfl (q_mv _ rfl (q_lens st9 rfl (q_bin _ _ _ rfl rfl rfl (q_mv _ rfl (q_or (b2 := false) 5 5 rfl rfl rfl rfl rfl (fun hb56 => by simp at hb56; omega) (
                    run_nil (h28 _ ?_))))))))
                  clear h28 K28
                  refine ok_cond rfl (fun c29 => ?_) (fun c29 => ?_)
                  · refine ok_seq fun K30 h30 => ?_
                    refine ok_region rfl (q_as _ rfl (q_as _ rfl (run_nil (h30 _ ?_))))
                    clear h30 K30
                    refine ok_ret ⟨_, rfl, ?_⟩
                    rw [← j4]; rfl
                  · simp at c29; omega
              · have hb1 : b ≠ 124 ∧ b ≠ 42 ∧ b ≠ 63 ∧ b ≠ 92 := by
                  refine ⟨?_, ?_, ?_, ?_⟩ <;> rintro rfl <;> first | (simp at c16; done) | (simp at c19; done) | (simp at c22; done) | (simp at c25; done)
                rw [alts_byte _ _ _ hb1.1 hb1.2.1 hb1.2.2.1 hb1.2.2.2] at j4
                refine ok_last fun K32 h32 => ok_region rfl (
                  q_mvf rfl (q_mv _ rfl (q_bldr [(0, .int .u8 b.toNat)] _ rfl (bp0 _) rfl (q_put (out := out) (now := now) (b.toNat : Int) (by omega) (by omega) (fun _ => rfl) (fun _ => by rw [pc, pc_byte]; rfl) (run_nil (h32 _ ?_))))))
                exact ⟨(k, now ++ [(b.toNat : Int)], out), ⟨Nat.le_refl _, hk, by simp; omega, by simp; omega, j4⟩, le_sub ⟨rfl, rfl, rfl, rfl, trivial⟩ ⟨rfl, rfl, rfl, trivial⟩⟩
      · obtain ⟨k2, now2, out2⟩ := v
        obtain ⟨g1, g2, g3, g4, g5⟩ := J
        simp only at g1 g2 g3 g4 g5
        refine ok_last fun K33 h33 => ok_region rfl (
          q_mv _ rfl (q_add rfl rfl (by omega) (q_as _ rfl (run_nil (h33 _ ?_)))))
        refine ⟨(k2 + 1, now2, out2), by show s.size - (k2 + 1) < s.size - k; omega, ⟨by omega, g3, g4, g5⟩, le_sub ⟨rfl, rfl, rfl, ?_, trivial⟩ ⟨rfl, rfl, rfl, trivial⟩⟩
        rfl
    · refine ok_exit (h8 _ ?_)
      have hk : k = s.size := by have : ¬ k < s.size := by simpa using c12
                                 omega
      have hd : s.data.toList.drop k = [] := by rw [List.drop_eq_nil_iff, hz]; omega
      rw [hd] at j4
      refine Ok.le (Le.trans (alt_end (s := s) (i := k) (now := now) (out := out)) (le_sub ⟨rfl, rfl, rfl, rfl, trivial⟩ ⟨rfl, rfl, rfl, trivial⟩)) ?_
      refine ok_seq fun K34 h34 => ok_region rfl (q_ldb _ ag257 rfl rfl rfl (q_ao _ rfl (q_as _ rfl (run_nil (h34 _ ?_))))); clear h34 K34
      refine ok_ret ⟨_, rfl, ?_⟩
      rw [← j4]; rfl
end Go.Ring
