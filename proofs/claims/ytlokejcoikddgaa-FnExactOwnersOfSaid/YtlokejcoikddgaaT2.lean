/- Marks written into rings and texts. No condition. -/
import Derived.Test.YtlokejcoikddgaaT1
set_option maxRecDepth 100000
set_option linter.unusedVariables false
set_option linter.unusedSimpArgs false
namespace Go.Abs
open Go Go.RowKit Go.Eager
section
variable {Γ : Ctx} {ops : Array Oper} {l : List (Oper × Nat)} {t : List (Nat × LV)} {h : List (Nat × Ent)} {K : St → Prop} {c d ty : Nat} {ps : String} {af : Array Edge} {x : Operand}
/-- A row of bytes that no one writes, as a text. -/
theorem q_cvf {bs : List UInt8} {S D e : Nat} (hs : Γ.P.underlying S = some (.slice e)) (he : Γ.P.underlying e = some (.int .u8)) (hD : Γ.P.underlying D = some .string) (hx : St.ev ⟨t, h⟩ x = .sv (.sl 1 (bs.map byteSV)))
    (hk : RunL Γ ops l ⟨(d, .sv (.raw (.string ⟨bs.toArray⟩))) :: t, h⟩ K) : RunL Γ ops ((⟨some d, .convert S D x, ty, ps, af, none⟩, c + 2) :: l) ⟨t, h⟩ K := by
  refine run_x (ext := True) rfl (by omega) (fun _ => trivial) fun a w ρ I hd => ?_
  have hr := I.ev x
  rw [hx] at hr
  have run : (execOp a.eval ⟨some d, .convert S D x, ty, ps, af, none⟩).run Γ.P w = .ok (.value (.string ⟨bs.toArray⟩)) w := by
    have h1 := run_rep_string (P := Γ.P) hr
    obtain ⟨q, n, cc, hq⟩ := rep_sl hr
    rw [hq] at h1
    simp [execOp, hq, run_convert_bytes_string w S D e q n cc hs he hD, h1]
  unfold XOk oN
  rw [run]
  exact ⟨_, hk, ⟨ρ, I.put (d := some d) (by simpa [dstOk] using hd) (Rep.raw _)⟩, fun _ => Ext.refl w⟩
end
/-- What no writing touches, kept; all else forgotten. -/
def mkD : LV → LV
  | .own k => .own k
  | .ptr k j => .ptr k j
  | .sv (.raw u) => .sv (.raw u)
  | _ => .dead
def mkDT (t : List (Nat × LV)) : List (Nat × LV) := t.map fun p => (p.1, mkD p.2)
theorem mkD_ok {Z : Nat → Prop} {s s' : SV} {v : Value} : ∀ lv : LV, MkL Z s s' v lv (mkD lv)
  | .own _ => .own
  | .ptr _ _ => .ptr
  | .sv (.raw u) => .sv (.raw u)
  | .sv (.sl _ _) => .dead
  | .sv (.agg _) => .dead
  | .sv (.tup _) => .dead
  | .sv (.ptr _) => .dead
  | .sv (.tr _ _ _) => .dead
  | .eptr _ _ _ _ => .dead
  | .osub _ _ _ => .dead
  | .av _ _ => .dead
  | .dead => .dead
theorem mkDT_ok {Z : Nat → Prop} {s s' : SV} {v : Value} : ∀ t : List (Nat × LV), MkT Z s s' v t (mkDT t)
  | [] => trivial
  | (_, lv) :: t => ⟨rfl, mkD_ok lv, mkDT_ok t⟩
end Go.Abs
namespace Go.Ring
open Go Go.RowKit Go.Eager Go.Abs Go.Proofs
@[reducible] def bsT (l : List UInt8) : ByteArray := ⟨l.toArray⟩
theorem bsT_size (l : List UInt8) : (bsT l).size = l.length := by show l.toArray.size = _; simp
theorem catT {a b : List UInt8} (h : a.length + b.length ≤ 9223372036854775807) : vBin .add (.string (bsT a)) (.string (bsT b)) = some (.string (bsT (a ++ b))) := by
  simp only [vBin, vStr, bsT_size]
  rw [if_pos h]
  have : bsT a ++ bsT b = bsT (a ++ b) := by apply ByteArray.ext; simp [ByteArray.data_append]
  rw [this]
def digs (n : Nat) (out : List UInt8) : List UInt8 := if h : n = 0 then out else digs (n / 10) (UInt8.ofNat (48 + n % 10) :: out)
termination_by n
decreasing_by omega
def markT (k : Nat) : ByteArray := bsT (109 :: digs k [])
theorem f60_ok (k : Nat) (h0 : 1 ≤ k) (hk : k ≤ 1152921504606846976) : PFn Try.prog 60 [int k] (str (markT k)) := by
  refine fn_ok' (n := 20) Try.func60 rfl rfl rfl (Nat.le_of_ble_eq_true rfl) rfl fun w0 O => ?_
  refine ok_seq fun K1 h1 => ok_region rfl (q_as _ rfl (run_nil (h1 _ ?_))); clear h1 K1
  refine ok_seq fun K2 h2 => ?_
  refine ok_seq fun K3 h3 => ok_region rfl (q_mv _ rfl (q_bin _ _ _ rfl rfl rfl (run_nil (h3 _ ?_)))); clear h3 K3
  refine ok_cond rfl (fun c4 => ?_) (fun c4 => ?_)
  · have := of_decide_eq_true c4; omega
  · refine ok_skip (h2 _ ?_)
    refine ok_seq fun K6 h6 => ok_region rfl (q_as _ rfl (run_nil (h6 _ ?_))); clear h6 K6
    refine ok_seq fun K7 h7 => ?_
    refine ok_block ?_
    refine ok_loop (fun (s : Nat × List UInt8) => ⟨[(0, .sv (int s.1)), (3, .sv (str (bsT s.2)))], []⟩) (fun s => digs k [] = digs s.1 s.2 ∧ s.2.length + s.1 ≤ k) (fun s => s.1) (k, []) ⟨rfl, by simp⟩ (le_same ⟨rfl, rfl, trivial⟩) (fun s J => ?_)
    obtain ⟨n, out⟩ := s
    obtain ⟨j1, j2⟩ := J
    simp only at j1 j2
    refine ok_seq fun K8 h8 => ?_
    refine ok_seq fun K9 h9 => ok_region rfl (q_mv _ rfl (q_bin _ _ _ rfl rfl rfl (run_nil (h9 _ ?_)))); clear h9 K9
    refine ok_cond rfl (fun c10 => ?_) (fun c10 => ?_)
    · have hn : 0 < n := by have : (0 : Int) < n := by simpa using c10
                            omega
      have hb : (48 + (n : Int) % 10) = ((UInt8.ofNat (48 + n % 10)).toNat : Int) := by
        have : (UInt8.ofNat (48 + n % 10)).toNat = (48 + n % 10) % 256 := UInt8.toNat_ofNat'
        rw [this]; omega
      have hst : digs n out = digs (n / 10) (UInt8.ofNat (48 + n % 10) :: out) := by
        conv => lhs; rw [digs]
        rw [dif_neg (by omega)]
      refine ok_skip (h8 _ ?_)
      refine ok_block ?_
      refine ok_seq fun K11 h11 => ?_
      refine ok_region rfl (q_mv _ rfl (q_mod rfl rfl (by omega) (q_add rfl rfl (by omega) (q_cv aS3 ik5 rfl (IntWalk.u8_in _ (by show 0 ≤ 48 + (n : Int) % 10 ∧ 48 + (n : Int) % 10 ≤ 255; omega)) (q_lit1 _ (byteSV (UInt8.ofNat (48 + n % 10))) el146 ze5 (by decide) (by decide) (by show LV.sv (SV.raw (Value.int IntKind.u8 (48 + (n : Int) % 10))) = LV.sv (SV.raw (Value.int IntKind.u8 ((UInt8.ofNat (48 + n % 10)).toNat : Int))); rw [hb]) (.inr rfl) rfl (q_cvf (bs := [UInt8.ofNat (48 + n % 10)]) Try.underlying146 Try.underlying5 Try.underlying9 rfl (
        q_mv _ rfl (q_bin _ _ _ rfl rfl (catT (by simp only [List.length_cons, List.length_nil]; omega)) (q_as _ rfl (run_nil (h11 _ ?_)))))))))))
      clear h11 K11
      refine ok_last fun K12 h12 => ok_region rfl (
        q_mv _ rfl (q_div rfl rfl (by omega) (q_as _ rfl (run_nil (h12 _ (⟨(n / 10, UInt8.ofNat (48 + n % 10) :: out), by simp only; omega, ⟨by rw [j1, hst], by simp only [List.length_cons]; omega⟩, ?_⟩))))))
      rw [show ((n : Int) / 10) = ((n / 10 : Nat) : Int) by omega]
      exact le_same ⟨rfl, rfl, trivial⟩
    · have hn : n = 0 := by have : ¬ (0 : Int) < n := by simpa using c10
                            omega
      subst hn
      have hst : digs 0 out = out := by rw [digs, dif_pos rfl]
      rw [hst] at j1
      refine ok_exit (h7 _ ?_)
      refine ok_seq fun K13 h13 => ok_region rfl (q_mv _ rfl (q_bin _ _ _ rfl rfl (catT (a := [109]) (by simp only [List.length_cons, List.length_nil]; omega)) (q_as _ rfl (run_nil (h13 _ ?_))))); clear h13 K13
      refine ok_ret ⟨_, rfl, ?_⟩
      rw [markT, j1]; rfl
theorem rs_of_raws {rs ls : List SV} (hl : rs.length = ls.length) (hr : ∀ s ∈ ls, ∃ u, s = SV.raw u) (hg : ∀ (i : Nat) (r s : SV), rs[i]? = some r → ls[i]? = some s → Gd r s) : rs = ls := by
  apply List.ext_getElem?
  intro i
  rcases Nat.lt_or_ge i rs.length with h | h
  · obtain ⟨r, h1⟩ := sget h
    obtain ⟨s, h2⟩ := sget (l := ls) (i := i) (by omega)
    have h3 := hg i r s h1 h2
    obtain ⟨u, rfl⟩ := hr s (smem h2)
    cases h3
    rw [h1, h2]
  · rw [List.getElem?_eq_none h, List.getElem?_eq_none (by omega)]
theorem hnil_of {f n : Nat} {k : Int} (h : PFn Try.prog f [.sl n [], int k] (int k)) (w : World) (v : Value) (hr : Rep w (fun _ => False) (.sl n []) v) : Calls Try.prog f #[v, .int .i64 k] w fun e w' => e = .returned (.int .i64 k) ∧ Ext w w' := by
  refine (h w (fun _ => False) #[v, .int .i64 k] (fun b h => h.elim) rfl (fun i s u hs hu => ?_)).mono ?_
  · match i, hs, hu with
    | 0, hs, hu => simp at hs hu; subst hs hu; exact hr
    | 1, hs, hu => simp at hs hu; subst hs hu; exact Rep.raw _
    | i + 2, hs, hu => simp at hs
  · rintro e w' ⟨u, he, hx, hv⟩
    rw [rep_raw' hv] at he
    exact ⟨he, hx⟩
theorem f15_n (k : Int) : PFn Try.prog 15 [.sl 1 [], int k] (int k) := by
  refine fn_ok' (n := 19) Try.func15 rfl rfl rfl (Nat.le_of_ble_eq_true rfl) rfl fun w0 O => ?_
  refine ok_seq fun K1 h1 => ok_region rfl (q_as _ rfl (run_nil (h1 _ ?_))); clear h1 K1
  refine ok_seq fun K2 h2 => ?_
  refine ok_seq fun K3 h3 => ok_region rfl (q_as _ rfl (run_nil (h3 _ ?_))); clear h3 K3
  refine ok_block ?_
  refine ok_loop (fun (_ : Nat) => ⟨[(0, .sv (.sl 1 [])), (1, .sv (int k)), (5, .sv (int 0))], []⟩) (fun k => True) (fun k => 0) 0 trivial (le_same ⟨rfl, rfl, rfl, trivial⟩) (fun _ J => ?_)
  refine ok_seq fun K4 h4 => ?_
  refine ok_seq fun K5 h5 => ok_region rfl (q_mv _ rfl (q_mv _ rfl (q_len eS27 rfl (q_bin _ _ _ rfl rfl rfl (run_nil (h5 _ ?_)))))); clear h5 K5
  refine ok_cond rfl (fun c6 => ?_) (fun c6 => ?_)
  · simp at c6
  · refine ok_exit (h2 _ ?_)
    refine ok_seq fun K11 h11 => ok_region rfl (q_mv _ rfl (q_as _ rfl (run_nil (h11 _ ?_)))); clear h11 K11
    exact ok_ret ⟨_, rfl, rfl⟩
theorem f26_n (k : Int) : PFn Try.prog 26 [.sl 1 [], int k] (int k) := by
  refine fn_ok' (n := 20) Try.func26 rfl rfl rfl (Nat.le_of_ble_eq_true rfl) rfl fun w0 O => ?_
  refine ok_seq fun K1 h1 => ok_region rfl (q_as _ rfl (run_nil (h1 _ ?_))); clear h1 K1
  refine ok_seq fun K2 h2 => ?_
  refine ok_seq fun K3 h3 => ok_region rfl (q_as _ rfl (run_nil (h3 _ ?_))); clear h3 K3
  refine ok_block ?_
  refine ok_loop (fun (_ : Nat) => ⟨[(0, .sv (.sl 1 [])), (1, .sv (int k)), (5, .sv (int 0))], []⟩) (fun k => True) (fun k => 0) 0 trivial (le_same ⟨rfl, rfl, rfl, trivial⟩) (fun _ J => ?_)
  refine ok_seq fun K4 h4 => ?_
  refine ok_seq fun K5 h5 => ok_region rfl (q_mv _ rfl (q_mv _ rfl (q_len eS50 rfl (q_bin _ _ _ rfl rfl rfl (run_nil (h5 _ ?_)))))); clear h5 K5
  refine ok_cond rfl (fun c6 => ?_) (fun c6 => ?_)
  · simp at c6
  · refine ok_exit (h2 _ ?_)
    refine ok_seq fun K11 h11 => ok_region rfl (q_mv _ rfl (q_as _ rfl (run_nil (h11 _ ?_)))); clear h11 K11
    exact ok_ret ⟨_, rfl, rfl⟩
theorem f59_n (k : Int) : PFn Try.prog 59 [.sl 3 [], int k] (int k) := by
  refine fn_ok' (n := 35) Try.func59 rfl rfl rfl (Nat.le_of_ble_eq_true rfl) rfl fun w0 O => ?_
  refine ok_seq fun K1 h1 => ok_region rfl (q_as _ rfl (run_nil (h1 _ ?_))); clear h1 K1
  refine ok_seq fun K2 h2 => ?_
  refine ok_seq fun K3 h3 => ok_region rfl (q_as _ rfl (run_nil (h3 _ ?_))); clear h3 K3
  refine ok_block ?_
  refine ok_loop (fun (_ : Nat) => ⟨[(0, .sv (.sl 3 [])), (1, .sv (int k)), (5, .sv (int 0))], []⟩) (fun k => True) (fun k => 0) 0 trivial (le_same ⟨rfl, rfl, rfl, trivial⟩) (fun _ J => ?_)
  refine ok_seq fun K4 h4 => ?_
  refine ok_seq fun K5 h5 => ok_region rfl (q_mv _ rfl (q_mv _ rfl (q_len eS44 rfl (q_bin _ _ _ rfl rfl rfl (run_nil (h5 _ ?_)))))); clear h5 K5
  refine ok_cond rfl (fun c6 => ?_) (fun c6 => ?_)
  · simp at c6
  · refine ok_exit (h2 _ ?_)
    refine ok_seq fun K11 h11 => ok_region rfl (q_mv _ rfl (q_as _ rfl (run_nil (h11 _ ?_)))); clear h11 K11
    exact ok_ret ⟨_, rfl, rfl⟩
def MIntR (k n : Nat) (k' : Int) (s' : SV) : Prop := k' = ((k + n : Nat) : Int) ∧ ∃ l' : List Int, s' = ints l' ∧ l'.length = n
theorem f15_m (l : List Int) (hl : l.length ≤ 1048576) (k : Nat) (hk : k ≤ 1152921504606846976) : MarkC Try.prog 15 (ints l) k (MIntR k l.length) := by
  refine fnm_ok (t := 4) (n := 1) (l := l.map int) Try.func15 rfl rfl rfl (by decide) (fun hn w v hr => ?_) (fun w0 Z v T rs hlen hpos hgd hap hzn => ?_)
  · have hl0 : l = [] := by simpa using hn
    subst hl0
    exact (hnil_of (f15_n k) w v hr).mono fun e w' ⟨he, hx⟩ => ⟨_, _, he, ⟨by simp, [], rfl, rfl⟩, rfl, hx⟩
  · obtain rfl := rs_of_raws hlen (raws_int l) hgd
    refine ok_seq fun K1 h1 => ok_region rfl (q_as _ rfl (run_nil (h1 _ ?_))); clear h1 K1
    refine ok_seq fun K2 h2 => ?_
    refine ok_seq fun K3 h3 => ok_region rfl (q_as _ rfl (run_nil (h3 _ ?_))); clear h3 K3
    refine ok_block ?_
    refine ok_loop (fun (s : Nat × List Int) => ⟨[(0, .own 0), (1, .sv (int ((k + s.1 : Nat) : Int))), (5, .sv (int s.1))], [(0, .row 1 T (s.2.map int))]⟩) (fun s => s.1 ≤ l.length ∧ s.2.length = l.length) (fun s => l.length - s.1) (0, l) ⟨Nat.zero_le _, rfl⟩ (le_sub ⟨rfl, rfl, rfl, trivial⟩ ⟨rfl, trivial⟩) (fun s J => ?_)
    obtain ⟨i, ls⟩ := s
    obtain ⟨j1, j2⟩ := J
    simp only at j1 j2
    refine ok_seq fun K4 h4 => ?_
    refine ok_seq fun K5 h5 => ok_region rfl (q_mv _ rfl (q_mo _ rfl (q_leno eS27 rfl rfl (q_bin _ _ _ rfl rfl rfl (run_nil (h5 _ ?_)))))); clear h5 K5
    rw [List.length_map]
    refine ok_cond rfl (fun c6 => ?_) (fun c6 => ?_)
    · have hi : i < ls.length := by simpa using c6
      obtain ⟨u, hu⟩ := sget hi
      refine ok_skip (h4 _ ?_)
      refine ok_seq fun K7 h7 => ?_
      refine ok_block ?_
      refine ok_seq fun K8 h8 => ok_region rfl (q_mo _ rfl (q_mv _ rfl (q_mv _ rfl (q_iao el27 rfl rfl rfl (by omega) (by rw [List.length_map]; show ((i : Int)).toNat < ls.length; omega) (q_ste sz3 rfl rfl (mget (f := int) hu) rfl (.inr rfl) rfl (run_nil (h8 _ ?_))))))); clear h8 K8
      refine ok_last fun K9 h9 => ok_region rfl (
        q_mv _ rfl (q_add rfl rfl (by omega) (q_as _ rfl (run_nil (h9 _ (h7 _ ?_))))))
      refine ok_last fun K10 h10 => ok_region rfl (
        q_mv _ rfl (q_add rfl rfl (by omega) (q_as _ rfl (run_nil (h10 _ (⟨(i + 1, ls.set i ((k + i : Nat) : Int)), by simp only; omega, ⟨by simp only; omega, by simp [j2]⟩, ?_⟩))))))
      rw [show (((k + i : Nat) : Int) + 1) = ((k + (i + 1) : Nat) : Int) by omega, List.map_set]
      exact le_sub ⟨rfl, rfl, rfl, trivial⟩ ⟨rfl, trivial⟩
    · have hi : i = l.length := by have : ¬ ((i : Int) < ls.length) := by simpa using c6
                                   omega
      obtain ⟨g1, g2, g3⟩ := gd_rawsL (raws_int ls)
      refine ok_exit (h2 _ ?_)
      refine ok_seq fun K11 h11 => ok_region rfl (q_mv _ rfl (q_as _ rfl (run_nil (h11 _ ?_)))); clear h11 K11
      exact ok_ret ⟨_, ls.map int, ls.map int, rfl, rfl, rfl, g1, g2, fun r hr b hb => (g3 r hr b hb).elim, by rw [hi], ls, rfl, j2⟩
/-- The marks of a row of texts. -/
def marksT (k n : Nat) : List ByteArray := (List.range n).map fun i => markT (k + i)
def MStrR (k n : Nat) (k' : Int) (s' : SV) : Prop := k' = ((k + n : Nat) : Int) ∧ s' = strs (marksT k n)
theorem marks_step {ls : List ByteArray} {k i n : Nat} (hl : ls.length = n) (hi : i < n) (h : ls.take i = marksT k i) : (ls.set i (markT (k + i))).take (i + 1) = marksT k (i + 1) := by
  unfold marksT at h ⊢
  rw [List.range_succ, List.map_append, ← h, List.take_set, List.take_add_one, List.getElem?_eq_getElem (by omega : i < ls.length), Option.toList_some, List.set_append_right _ _ (by simp; omega)]
  congr 1
  rw [show i - (ls.take i).length = 0 by simp; omega]
  rfl
theorem f26_m (l : List ByteArray) (hl : l.length ≤ 1048576) (k : Nat) (h0 : 1 ≤ k) (hk : k ≤ 576460752303423488) : MarkC Try.prog 26 (strs l) k (MStrR k l.length) := by
  refine fnm_ok (t := 4) (n := 1) (l := l.map str) Try.func26 rfl rfl rfl (by decide) (fun hn w v hr => ?_) (fun w0 Z v T rs hlen hpos hgd hap hzn => ?_)
  · have hl0 : l = [] := by simpa using hn
    subst hl0
    exact (hnil_of (f26_n k) w v hr).mono fun e w' ⟨he, hx⟩ => ⟨_, _, he, ⟨by simp, rfl⟩, rfl, hx⟩
  · obtain rfl := rs_of_raws hlen (raws_str l) hgd
    refine ok_seq fun K1 h1 => ok_region rfl (q_as _ rfl (run_nil (h1 _ ?_))); clear h1 K1
    refine ok_seq fun K2 h2 => ?_
    refine ok_seq fun K3 h3 => ok_region rfl (q_as _ rfl (run_nil (h3 _ ?_))); clear h3 K3
    refine ok_block ?_
    refine ok_loop (fun (s : Nat × List ByteArray) => ⟨[(0, .own 0), (1, .sv (int ((k + s.1 : Nat) : Int))), (5, .sv (int s.1))], [(0, .row 1 T (s.2.map str))]⟩) (fun s => s.1 ≤ l.length ∧ s.2.length = l.length ∧ s.2.take s.1 = marksT k s.1) (fun s => l.length - s.1) (0, l) ⟨Nat.zero_le _, rfl, rfl⟩ (le_sub ⟨rfl, rfl, rfl, trivial⟩ ⟨rfl, trivial⟩) (fun s J => ?_)
    obtain ⟨i, ls⟩ := s
    obtain ⟨j1, j2, j3⟩ := J
    simp only at j1 j2 j3
    refine ok_seq fun K4 h4 => ?_
    refine ok_seq fun K5 h5 => ok_region rfl (q_mv _ rfl (q_mo _ rfl (q_leno eS50 rfl rfl (q_bin _ _ _ rfl rfl rfl (run_nil (h5 _ ?_)))))); clear h5 K5
    rw [List.length_map]
    refine ok_cond rfl (fun c6 => ?_) (fun c6 => ?_)
    · have hi : i < ls.length := by simpa using c6
      obtain ⟨u, hu⟩ := sget hi
      refine ok_skip (h4 _ ?_)
      refine ok_seq fun K7 h7 => ?_
      refine ok_block ?_
      refine ok_seq fun K8 h8 => ok_region rfl (q_mo _ rfl (q_mv _ rfl (q_mv _ rfl (q_call (f60_ok (k + i) (by omega) (by omega)) cl60 rfl rfl (q_iao el50 rfl rfl rfl (by omega) (by rw [List.length_map]; show ((i : Int)).toNat < ls.length; omega) (q_ste sz9 rfl rfl (mget (f := str) hu) rfl (.inr rfl) rfl (run_nil (h8 _ ?_)))))))); clear h8 K8
      refine ok_last fun K9 h9 => ok_region rfl (
        q_mv _ rfl (q_add rfl rfl (by omega) (q_as _ rfl (run_nil (h9 _ (h7 _ ?_))))))
      refine ok_last fun K10 h10 => ok_region rfl (
        q_mv _ rfl (q_add rfl rfl (by omega) (q_as _ rfl (run_nil (h10 _ (⟨(i + 1, ls.set i (markT (k + i))), by simp only; omega, ⟨by simp only; omega, by simp [j2], marks_step j2 (by omega) j3⟩, ?_⟩))))))
      rw [show (((k + i : Nat) : Int) + 1) = ((k + (i + 1) : Nat) : Int) by omega, List.map_set]
      exact le_sub ⟨rfl, rfl, rfl, trivial⟩ ⟨rfl, trivial⟩
    · have hi : i = l.length := by have : ¬ ((i : Int) < ls.length) := by simpa using c6
                                   omega
      rw [List.take_of_length_le (by omega)] at j3
      obtain ⟨g1, g2, g3⟩ := gd_rawsL (raws_str ls)
      refine ok_exit (h2 _ ?_)
      refine ok_seq fun K11 h11 => ok_region rfl (q_mv _ rfl (q_as _ rfl (run_nil (h11 _ ?_)))); clear h11 K11
      exact ok_ret ⟨_, ls.map str, ls.map str, rfl, rfl, rfl, g1, g2, fun r hr b hb => (g3 r hr b hb).elim, by rw [hi], by rw [j3, hi]⟩
end Go.Ring

