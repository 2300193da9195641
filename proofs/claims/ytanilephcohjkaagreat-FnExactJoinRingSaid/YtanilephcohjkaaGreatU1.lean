/- Copies told apart, marks, what holds them: by program. No condition. -/
import Derived.Test.YtanilephcohjkaaGreatSg5
set_option maxRecDepth 100000
set_option linter.unusedVariables false
set_option linter.unusedSimpArgs false
namespace Go.Ring
open Go Go.RowKit Go.Eager Go.Abs Go.Proofs
theorem f69_t (x : List Int) (hx : x.length ≤ 1048576) : PFnT Tryz.prog 69 [ints x] (ints x) := by
  have hle : x.length ≤ 1048576 := hx
  refine fnp_ok (n := 22) Tryz.func69 rfl rfl rfl (Nat.le_of_ble_eq_true rfl) rfl fun w0 O => ?_
  refine ok_seq fun K1 h1 => ok_region rfl (q_as _ rfl (run_nil (h1 _ ?_)))
  refine ok_seq fun K2 h2 => ok_region rfl (q_mv _ rfl (q_len eS40 rfl (q_make _ _ el40 (by decide) ze3 rfl by3 rfl rfl rfl rfl (.inr ⟨rfl, rfl⟩) (by rw [List.length_map]; exact Nat.le_trans hle (by decide)) (by rw [List.length_map]; omega) (q_ao _ rfl (run_nil (h2 _ ?_))))))
  rw [List.length_map]
  refine ok_seq fun K3 h3 => ?_
  refine ok_seq fun K4 h4 => ok_region rfl (q_as _ rfl (run_nil (h4 _ ?_)))
  refine ok_block ?_
  refine ok_loop (fun (k : Nat) => ⟨[(0, .sv (ints x)), (3, .own 7), (4, .sv (int k))], [(7, .row 1 3 (fill int (.raw (.int .i64 0)) x k))]⟩) (fun k => k ≤ x.length) (fun k => x.length - k) 0 (Nat.zero_le _) (by rw [fill_zero]; exact le_sub ⟨rfl, rfl, rfl, trivial⟩ ⟨rfl, trivial⟩) (fun k J => ?_)
  refine ok_seq fun K5 h5 => ?_
  refine ok_seq fun K6 h6 => ok_region rfl (q_mv _ rfl (q_mv _ rfl (q_len eS40 rfl (q_bin _ _ _ rfl rfl rfl (run_nil (h6 _ ?_))))))
  rw [List.length_map]
  refine ok_cond rfl (fun c7 => ?_) (fun c7 => ?_)
  · refine ok_skip (h5 _ ?_)
    have hk : k < x.length := by simpa using c7
    obtain ⟨u, hu⟩ := sget hk
    refine ok_seq fun K8 h8 => ?_
    refine ok_block ?_
    refine ok_last fun K9 h9 => ok_region rfl (q_mo _ rfl (q_mv _ rfl (q_mv _ rfl (q_mv _ rfl (q_ia (s := int u) el40 rfl rfl (by omega) (mget (f := int) hu) (q_ld _ ag3 rfl rfl (q_iao el40 rfl rfl rfl (by omega) (by rw [fill_len _ _ _ J]; exact hk) (q_ste sz3 rfl rfl (fill_get _ _ _ hk) rfl (.inr rfl) rfl (run_nil (h9 _ (h8 _ ?_)))))))))))
    refine ok_region rfl (q_mv _ rfl (q_add rfl rfl (by omega) (q_as _ rfl (run_nil (⟨k + 1, by omega, hk, ?_⟩)))))
    rw [← fill_set int (.raw (.int .i64 0)) hu]
    exact le_sub ⟨rfl, rfl, rfl, trivial⟩ ⟨rfl, trivial⟩
  · rw [fill_all _ _ _ (by simpa using c7)]
    obtain ⟨g1, g2, g3⟩ := gd_flatL (rs := x.map int) (fun r hr => by obtain ⟨y, _, rfl⟩ := List.mem_map.1 hr; rfl)
    refine ok_exit (h3 _ ?_)
    refine ok_seq fun K9 h9 => ok_region rfl (q_mo _ rfl (q_ao _ rfl (run_nil (h9 _ ?_))))
    refine ok_treed (k := 7) (n := 1) (T := 3) (rs := x.map int) (ss := x.map int) rfl rfl g1 g2 (fun r hr b hb => (g3 r hr b hb).elim) (fun Z v hZ => ?_)
    exact ok_ret ⟨_, ⟨_, _, rfl, rfl, rfl⟩, .tr Z 1 _ v, fun b hb => (hZ b (zn_tr hb)).elim id fun h => h.elim⟩
theorem f29_n (k : Int) : PFn Tryz.prog 29 [.sl 1 [], int k] (int k) := by
  refine fn_ok' (n := 19) Tryz.func29 rfl rfl rfl (Nat.le_of_ble_eq_true rfl) rfl fun w0 O => ?_
  refine ok_seq fun K1 h1 => ok_region rfl (q_as _ rfl (run_nil (h1 _ ?_)))
  refine ok_seq fun K2 h2 => ?_
  refine ok_seq fun K3 h3 => ok_region rfl (q_as _ rfl (run_nil (h3 _ ?_)))
  refine ok_block ?_
  refine ok_loop (fun (_ : Nat) => ⟨[(0, .sv (.sl 1 [])), (1, .sv (int k)), (5, .sv (int 0))], []⟩) (fun k => True) (fun k => 0) 0 trivial (le_same ⟨rfl, rfl, rfl, trivial⟩) (fun _ J => ?_)
  refine ok_seq fun K4 h4 => ?_
  refine ok_seq fun K5 h5 => ok_region rfl (q_mv _ rfl (q_mv _ rfl (q_len eS40 rfl (q_bin _ _ _ rfl rfl rfl (run_nil (h5 _ ?_))))))
  refine ok_cond rfl (fun c6 => ?_) (fun c6 => ?_)
  · simp at c6
  · refine ok_exit (h2 _ ?_)
    refine ok_seq fun K11 h11 => ok_region rfl (q_mv _ rfl (q_as _ rfl (run_nil (h11 _ ?_))))
    exact ok_ret ⟨_, rfl, rfl⟩
theorem f29_m (l : List Int) (hs : l.length ≤ 1048576) (k : Nat) (h0 : 1 ≤ k) (hk : k + cL cOne l ≤ 1152921504606846976) : MarkC Tryz.prog 29 (ints l) k (fun k' s' => k' = ((k + cL cOne l : Nat) : Int) ∧ ∃ l', s' = ints l' ∧ HL cOne hInt l' k ∧ cL cOne l' = cL cOne l ∧ l'.length ≤ 1048576) := by
  refine fnm_ok (t := 4) (n := 1) (l := l.map int) Tryz.func29 rfl rfl rfl (by decide) (fun hn w v hr => ?_) (fun w0 Z v T rs hlen hpos hgd hap hzn => ?_)
  · have hl0 : l = [] := by simpa using hn
    subst hl0
    exact (hnil_of (f29_n k) w v hr).mono fun e w' ⟨he, hx⟩ => ⟨_, _, he, ⟨rfl, [], rfl, trivial, rfl, by simp⟩, rfl, hx⟩
  · have S : ShG Z int rs l := ⟨by simpa using hlen, hap, hzn, fun j r x hr hx => hgd j r _ hr (mget hx)⟩
    refine ok_seq fun K1 h1 => ok_region rfl (q_as _ rfl (run_nil (h1 _ ?_)))
    refine ok_seq fun K2 h2 => ?_
    refine ok_seq fun K3 h3 => ok_region rfl (q_as _ rfl (run_nil (h3 _ ?_)))
    refine ok_block ?_
    refine ok_loop (fun (s : List Int × List Int × List SV × Nat) => ⟨[(0, .own 0), (1, .sv (int (s.2.2.2 : Int))), (5, .sv (int (s.1.length : Int)))], [(0, .row 1 T s.2.2.1)]⟩) (fun s => ShG Z int s.2.2.1 (s.1 ++ s.2.1) ∧ s.2.2.2 = k + cL cOne s.1 ∧ HL cOne hInt s.1 k ∧ cL cOne s.1 + cL cOne s.2.1 = cL cOne l ∧ s.1.length + s.2.1.length = l.length) (fun s => s.2.1.length) ([], l, rs, k) ⟨S, rfl, trivial, by simp [cL], by simp⟩ (le_sub ⟨rfl, rfl, rfl, trivial⟩ ⟨rfl, trivial⟩) (fun s J => ?_)
    clear S hlen hgd hap hzn
    obtain ⟨d, rest, rs, kk⟩ := s
    obtain ⟨S, j2, j3, j4, j5⟩ := J
    simp only at S j2 j3 j4 j5
    have hll : l.length ≤ 1048576 := hs
    have hsl := S.len
    rw [List.length_append] at hsl
    refine ok_seq fun K4 h4 => ?_
    refine ok_seq fun K5 h5 => ok_region rfl (q_mv _ rfl (q_mo _ rfl (q_leno eS40 rfl rfl (q_bin _ _ _ rfl rfl rfl (run_nil (h5 _ ?_))))))
    refine ok_cond rfl (fun c6 => ?_) (fun c6 => ?_)
    · have hi : d.length < rs.length := by simpa using c6
      obtain ⟨u, rest, rfl⟩ : ∃ u t, rest = u :: t := by cases rest with | nil => simp at hsl; omega | cons u t => exact ⟨u, t, rfl⟩
      obtain ⟨r, hr0, hg⟩ := S.here
      obtain rfl := flat_eq (s := int u) rfl hg
      have hc : cL cOne ((u : Int) :: rest) = (1) + cL cOne rest := rfl
      rw [hc] at j4
      rw [List.length_cons] at j5
      refine ok_skip (h4 _ ?_)
      refine ok_seq fun K7 h7 => ?_
      refine ok_block ?_
      refine ok_seq fun K8 h8 => ok_region rfl (q_mo _ rfl (q_mv _ rfl (q_mv _ rfl (q_iao el40 rfl rfl rfl (by omega) (slt hr0) (q_ste sz3 rfl rfl hr0 rfl (.inr rfl) rfl (run_nil (h8 _ ?_)))))))
      have S1 := S.set (u' := (((kk : Nat) : Int) : Int)) hr0 (r' := int (((kk : Nat) : Int))) (.raw _) (fun b hb => (flat_zn rfl hb).elim)
      have hr1 := set_self_getG (x := (int (((kk : Nat) : Int)) : SV)) hr0
      refine ok_last fun K9 h9 => ok_region rfl (q_mv _ rfl (q_add rfl rfl (by show -9223372036854775808 ≤ ((kk : Nat) : Int) + 1 ∧ ((kk : Nat) : Int) + 1 ≤ 9223372036854775807; omega) (q_as _ rfl (run_nil (h9 _ (h7 _ ?_))))))
      have hcU : cOne (((kk : Nat) : Int) : Int) = 1 := rfl
      have hLU : cL cOne (d ++ [(((kk : Nat) : Int) : Int)]) = cL cOne d + (1) := by rw [cL_snoc, hcU]
      have hHU : HL cOne hInt (d ++ [(((kk : Nat) : Int) : Int)]) k := HL_snoc j3 (by rw [← j2]; exact rfl)
      rw [List.append_cons] at S1
      refine ok_last fun K10 h10 => ok_region rfl (q_mv _ rfl (q_add rfl rfl (by show -9223372036854775808 ≤ ((d.length : Nat) : Int) + 1 ∧ ((d.length : Nat) : Int) + 1 ≤ 9223372036854775807; omega) (q_as _ rfl (run_nil (h10 _ (⟨(d ++ [(((kk : Nat) : Int) : Int)], rest, _, kk + 1), by simp, ⟨S1, by show kk + 1 = _; rw [hLU]; omega, hHU, by show cL cOne (d ++ [(((kk : Nat) : Int) : Int)]) + cL _ rest = _; rw [hLU]; omega, by show (d ++ [_]).length + rest.length = _; rw [List.length_append, List.length_singleton]; omega⟩, le_sub ⟨rfl, rfl, (congrArg (fun n : Int => some (LV.sv (int n))) (show ((d.length : Nat) : Int) + 1 = ((d ++ [(((kk : Nat) : Int) : Int)]).length : Nat) from by simp)), trivial⟩ ⟨rfl, trivial⟩⟩))))))
    · have hi : ¬ d.length < rs.length := by simpa using c6
      have hrest : rest = [] := by cases rest with | nil => rfl | cons u t => simp at hsl; omega
      subst hrest
      rw [List.append_nil] at S
      simp only [cL] at j4
      rw [List.length_nil] at j5
      have hkk : kk = k + cL cOne l := by omega
      refine ok_exit (h2 _ ?_)
      refine ok_seq fun K11 h11 => ok_region rfl (q_mv _ rfl (q_as _ rfl (run_nil (h11 _ ?_))))
      exact ok_ret ⟨_, rs, d.map int, rfl, rfl, by simpa using S.len, fun j r s hr hs => (by rw [List.getElem?_map] at hs; obtain ⟨x, hx, rfl⟩ := Option.map_eq_some_iff.1 hs; exact S.gd j r x hr hx), S.ap, S.zn, by rw [hkk], d, rfl, j3, by omega, by omega⟩
theorem f30_h (l : List Int) (hs : l.length ≤ 1048576) (k : Nat) (h0 : 1 ≤ k) (hk : k + cL cOne l ≤ 1152921504606846976) (hh : HL cOne hInt l k) : PFn Tryz.prog 30 [ints l, int k] (int ((k + cL cOne l : Nat) : Int)) := by
  refine fn_ok' (n := 21) Tryz.func30 rfl rfl rfl (Nat.le_of_ble_eq_true rfl) rfl fun w0 O => ?_
  refine ok_seq fun K1 h1 => ok_region rfl (q_as _ rfl (run_nil (h1 _ ?_)))
  refine ok_seq fun K2 h2 => ?_
  refine ok_seq fun K3 h3 => ok_region rfl (q_as _ rfl (run_nil (h3 _ ?_)))
  refine ok_block ?_
  refine ok_loop (fun (s : List Int × List Int × Nat) => ⟨[(0, .sv (ints l)), (1, .sv (int (s.2.2 : Int))), (5, .sv (int (s.1.length : Int)))], []⟩) (fun s => l = s.1 ++ s.2.1 ∧ s.2.2 + cL cOne s.2.1 = k + cL cOne l ∧ HL cOne hInt s.2.1 s.2.2 ∧ k ≤ s.2.2) (fun s => s.2.1.length) ([], l, k) ⟨rfl, rfl, hh, Nat.le_refl _⟩ (le_same ⟨rfl, rfl, rfl, trivial⟩) (fun s J => ?_)
  obtain ⟨d, rest, kk⟩ := s
  obtain ⟨j1, j2, j3, j4⟩ := J
  simp only at j1 j2 j3 j4
  have hll : l.length ≤ 1048576 := hs
  have hdl : l.length = d.length + rest.length := by rw [j1, List.length_append]
  refine ok_seq fun K4 h4 => ?_
  refine ok_seq fun K5 h5 => ok_region rfl (q_mv _ rfl (q_mv _ rfl (q_len eS40 rfl (q_bin _ _ _ rfl rfl rfl (run_nil (h5 _ ?_))))))
  rw [List.length_map]
  refine ok_cond rfl (fun c6 => ?_) (fun c6 => ?_)
  · have hi : d.length < l.length := by simpa using c6
    obtain ⟨u, rest, rfl⟩ : ∃ u t, rest = u :: t := by cases rest with | nil => simp at hdl; omega | cons u t => exact ⟨u, t, rfl⟩
    have hu : l[d.length]? = some u := by rw [j1, List.getElem?_append_right (Nat.le_refl _), Nat.sub_self]; rfl
    obtain ⟨hE, j3⟩ := j3
    have e0 : u = ((kk : Nat) : Int) := hE
    subst e0
    have hc : cL cOne ((((kk : Nat) : Int) : Int) :: rest) = (1) + cL cOne rest := rfl
    rw [hc] at j2
    rw [List.length_cons] at hdl
    refine ok_skip (h4 _ ?_)
    refine ok_seq fun K7 h7 => ?_
    refine ok_block ?_
    refine ok_seq fun K8 h8 => ?_
    refine ok_seq fun K9 h9 => ok_region rfl (q_mv _ rfl (q_mv _ rfl (q_ia (s := int (((kk : Nat) : Int))) el40 rfl rfl (by omega) (mget (f := int) hu) (q_ld _ ag3 rfl rfl (q_mv _ rfl (q_bin _ _ _ rfl rfl rfl (run_nil (h9 _ ?_))))))))
    refine ok_cond rfl (fun c10 => ?_) (fun c10 => ?_)
    · simp at c10
    · refine ok_skip (h8 _ ?_)
      refine ok_last fun K12 h12 => ok_region rfl (q_mv _ rfl (q_add rfl rfl (by show -9223372036854775808 ≤ ((kk : Nat) : Int) + 1 ∧ ((kk : Nat) : Int) + 1 ≤ 9223372036854775807; omega) (q_as _ rfl (run_nil (h12 _ (h7 _ ?_))))))
      refine ok_last fun K13 h13 => ok_region rfl (q_mv _ rfl (q_add rfl rfl (by show -9223372036854775808 ≤ ((d.length : Nat) : Int) + 1 ∧ ((d.length : Nat) : Int) + 1 ≤ 9223372036854775807; omega) (q_as _ rfl (run_nil (h13 _ (⟨(d ++ [(((kk : Nat) : Int) : Int)], rest, kk + 1), by simp, ⟨by show l = (d ++ [_]) ++ rest; rw [j1, List.append_cons], by show kk + 1 + cL cOne rest = _; omega, by have h9 := j3; rw [show kk + cOne (((kk : Nat) : Int) : Int) = kk + 1 from by show kk + (1) = _; omega] at h9; exact h9, by show k ≤ kk + 1; omega⟩, le_same ⟨rfl, rfl, (congrArg (fun n : Int => some (LV.sv (int n))) (show ((d.length : Nat) : Int) + 1 = ((d ++ [(((kk : Nat) : Int) : Int)]).length : Nat) from by simp)), trivial⟩⟩))))))
  · have hi : ¬ d.length < l.length := by simpa using c6
    have hrest : rest = [] := by cases rest with | nil => rfl | cons u t => simp at hdl; omega
    subst hrest
    simp only [cL] at j2
    have hkk : kk = k + cL cOne l := by omega
    refine ok_exit (h2 _ ?_)
    refine ok_seq fun K14 h14 => ok_region rfl (q_mv _ rfl (q_as _ rfl (run_nil (h14 _ ?_))))
    subst hkk; exact ok_ret ⟨_, rfl, rfl⟩
theorem kc_IntS (l : List Int) : KC (cL cOne l) (zIntS l) 0 := kc_take _ _ (by rw [cL_const (c := cOne) (m := 1) (fun _ => rfl)]; omega)
theorem gi_RingNode {x : RingNode} {r : SV} (h : Gd r (eRingNode x)) : ∃ (Z2 : Nat → Prop) (v2 : Value), r = .agg [str x.id, int x.st, .tr Z2 (ints x.toks) v2] := by
  obtain ⟨rs, rfl, g, a⟩ := gd_agg_inv h
  obtain ⟨r0, q0, rfl, g0, g⟩ := g.inv_cons
  obtain ⟨r1, q1, rfl, g1, g⟩ := g.inv_cons
  obtain ⟨r2, q2, rfl, g2, g⟩ := g.inv_cons
  obtain rfl := g.inv_nil
  obtain rfl := gd_raw_inv g0
  obtain rfl := gd_raw_inv g1
  obtain ⟨Z2, v2, rfl⟩ := gd_sl_inv g2
  exact ⟨Z2, v2, rfl⟩
theorem gc_RingNode (x : RingNode) {Z2 : Nat → Prop} {v2 : Value}  : Gd (.agg [str x.id, int x.st, .tr Z2 (ints x.toks) v2]) (eRingNode x) := gd_agg ⟨.raw _, .raw _, .tr _ _ _ _, trivial⟩ (AL_raw (AL_raw (AL_tr (fun b hb hb' => by simp only [znA_cons, znI_raw, znI_tr, znA_nil, or_false, false_or] at hb') trivial)))
def NRingNode (x : RingNode) : Prop := x.toks.length ≤ 1048576
theorem nRingNode_of {x : RingNode} (h : SRingNode x) : NRingNode x := h.2
def cRingNode (x : RingNode) : Nat := 1 + 1 + cL cOne x.toks
def hRingNode (x : RingNode) (k : Nat) : Prop := x.id = markT (k) ∧ x.st = ((k + 1 : Nat) : Int) ∧ HL cOne hInt x.toks (k + 1 + 1)
theorem f18_t (x : RingNode) (hx : SRingNode x) : PFnT Tryz.prog 18 [eRingNode x] (eRingNode x) := by
  refine fnp_ok (n := 15) Tryz.func18 rfl rfl rfl (Nat.le_of_ble_eq_true rfl) rfl fun w0 O => ?_
  refine ok_seq fun K1 h1 => ok_region rfl (q_boxs _ rfl (Nat.zero_lt_succ _) (q_alloc _ ze45 rfl rfl rfl rfl (run_nil (h1 _ ?_))))
  refine ok_seq fun K2 h2 => ok_region rfl (q_alloc _ ze45 rfl rfl rfl rfl (run_nil (h2 _ ?_)))
  refine ok_seq fun K3 h3 => ok_region rfl (q_fa _ fd42_0 rfl rfl (by decide) (q_ld _ ag9 rfl rfl (q_fap fd45_0 rfl (by decide) (q_st _ sz9 rfl rfl (Nat.le_of_ble_eq_true rfl) rfl ⟨_, rfl, rfl⟩ rfl (run_nil (h3 _ ?_))))))
  refine ok_seq fun K4 h4 => ok_region rfl (q_fa _ fd42_1 rfl rfl (by decide) (q_ld _ ag3 rfl rfl (q_fap fd45_1 rfl (by decide) (q_st _ sz3 rfl rfl (Nat.le_of_ble_eq_true rfl) rfl ⟨_, rfl, rfl⟩ rfl (run_nil (h4 _ ?_))))))
  refine ok_seq fun K5 h5 => ok_region rfl (q_fa _ fd42_2 rfl rfl (by decide) (q_ld _ ag40 rfl rfl (q_callr (f69_t x.toks (hx.2)) cl69 rfl (fun r2 hr2 hz2 ha2 => ?_))))
  obtain ⟨Z2, v2, rfl⟩ := gd_sl_inv hr2
  refine q_fap fd45_2 rfl (by decide) (q_st _ sz40 rfl rfl (Nat.le_of_ble_eq_true rfl) rfl ⟨_, rfl, rfl⟩ rfl (run_nil (h5 _ ?_)))
  refine ok_seq fun K6 h6 => ok_region rfl (q_ldbs ag45 rfl rfl sz45 rfl rfl (q_sts _ rfl rfl rfl sz45 (Nat.le_of_ble_eq_true rfl) rfl (run_nil (h6 _ ?_))))
  refine ok_ret ⟨[.agg [str x.id, int x.st, .tr Z2 (ints x.toks) v2]], ⟨_, _, res_cells (l := [str x.id, int x.st, .tr Z2 (ints x.toks) v2]) rfl rfl ag45 sz45 rfl, rfl, rfl⟩, gc_RingNode x , fun b hb => ?_⟩
  have hb : Zn b (.agg [str x.id, int x.st, .tr Z2 (ints x.toks) v2]) := hb
  simp only [znA_cons, znI_raw, znI_tr, znA_nil, or_false, false_or] at hb
  exact hz2 b (.tr Z2 _ v2 hb)
def cmRingNode (x : RingNode) : Nat := cL cOne x.toks
def hmRingNode (x : RingNode) (k : Nat) : Prop := HL cOne hInt x.toks (k)
theorem f21_m (x : RingNode) (hs : NRingNode x) (k : Nat) (h0 : 1 ≤ k) (hk : k + cmRingNode x ≤ 1152921504606846976) : MarkC Tryz.prog 21 (eRingNode x) k (fun k' s' => k' = ((k + cmRingNode x : Nat) : Int) ∧ ∃ x', s' = eRingNode x' ∧ hmRingNode x' k ∧ cmRingNode x' = cmRingNode x ∧ NRingNode x') := by
  have hcx : cmRingNode x = cL cOne x.toks := rfl
  have hn2 : x.toks.length ≤ 1048576 := hs
  refine fns_ok (t := 4) (bx := 2) Tryz.func21 rfl rfl rfl (by decide) (fun w0 Z rs hG hA hZ => ?_)
  obtain ⟨Z2, v2, hrs⟩ := gi_RingNode (x := x) (gd_agg hG hA)
  injection hrs with hrs
  subst hrs
  refine ⟨rfl, ?_⟩
  refine ok_seq fun K1 h1 => ok_region rfl (q_boxo (cells := [.sv (str x.id), .sv (int x.st), .sv (.tr Z2 (ints x.toks) v2)]) _ rfl (.inl ⟨_, rfl⟩) rfl rfl rfl (q_as _ rfl (run_nil (h1 _ ?_))))
  refine ok_seq fun K2 h2 => ok_region rfl (q_fap fd45_2 rfl (by decide) (q_ldb _ ag40 rfl rfl rfl (q_mv _ rfl (q_mark (k := ((k : Nat) : Int)) (f29_m x.toks hn2 (k) (by omega) (by omega)) cl29 rfl rfl (fun b hb => .inr (hZ b (.agg _ (.tr Z2 (ints x.toks) v2) (by simp) (.tr Z2 (ints x.toks) v2 hb)))) (fun _ => mkDT _) (fun s' => [(2, .box [.sv (str x.id), .sv (int x.st), .sv (.tr Z2 s' v2)])]) (fun s' => mkDT_ok _) (fun s' => ⟨rfl, mk_box ⟨.sv (.raw _), .sv (.raw _), .sv .same, trivial⟩, trivial⟩) (fun k' s' hR => ?_)))))
  obtain ⟨rfl, w2, rfl, hh2, hc2, hm2⟩ := hR
  refine q_as _ rfl (run_nil (h2 _ ?_))
  refine ok_seq fun K3 h3 => ok_region rfl (q_mv _ rfl (q_as _ rfl (run_nil (h3 _ ?_))))
  exact ok_ret ⟨_, [str x.id, int x.st, .tr Z2 (ints w2) v2], [str x.id, int x.st, ints w2], rfl, rfl, rfl, rfl, ⟨.raw _, .raw _, .tr _ _ _ _, trivial⟩, (AL_raw (AL_raw (AL_tr (fun b hb hb' => by simp only [znA_cons, znI_raw, znI_tr, znA_nil, or_false, false_or] at hb') trivial))), (fun b hb => by simp only [znA_cons, znI_raw, znI_tr, znA_nil, or_false, false_or] at hb; exact hZ b (by simp only [znA_cons, znI_raw, znI_tr, znA_nil, or_false, false_or]; exact hb)), by rw [hcx] <;> first | rfl | (congr 1; omega), (⟨x.id, x.st, w2⟩ : RingNode), rfl, (by show HL cOne hInt w2 (k); exact hh2), by show cL cOne w2 = _; rw [hcx]; omega, hm2⟩
theorem kc_RingNode (x : RingNode) : KC (cRingNode x) (zRingNode x) 16 := by
  have h : KC ((0 + (cL cOne x.toks))) (zRingNode x) 0 := (kc_stp (kc_take0 x.id.size) (kc_IntS x.toks))
  have e : cRingNode x = 1 + 1 + cL cOne x.toks := rfl
  exact h.mono (by rw [e]; omega)
theorem kcm_RingNode (x : RingNode) : KC (cmRingNode x) (zRingNode x) 16 := by
  have h : KC ((0 + (cL cOne x.toks))) (zRingNode x) 0 := (kc_stp (kc_take0 x.id.size) (kc_IntS x.toks))
  have e : cmRingNode x = cL cOne x.toks := rfl
  exact h.mono (by rw [e]; omega)
theorem f127_t (x : List RingNode) (hx : x.length ≤ 1048576 ∧ ∀ y ∈ x, SRingNode y) : PFnT Tryz.prog 127 [eRingNodeS x] (eRingNodeS x) := by
  have hle : x.length ≤ 1048576 := hx.1
  refine fnp_ok (n := 23) Tryz.func127 rfl rfl rfl (Nat.le_of_ble_eq_true rfl) rfl fun w0 O => ?_
  refine ok_seq fun K1 h1 => ok_region rfl (q_as _ rfl (run_nil (h1 _ ?_)))
  refine ok_seq fun K2 h2 => ok_region rfl (q_mv _ rfl (q_len eS22 rfl (q_make _ (.agg [.raw (.string ⟨#[]⟩), .raw (.int .i64 0), .raw (.slice none 0 0)]) el29 (by decide) ze45 rfl by45 rfl rfl rfl rfl (.inl ⟨rfl, rfl, rfl⟩) (by rw [List.length_map]; exact Nat.le_trans hle (by decide)) (by rw [List.length_map]; omega) (q_ao _ rfl (run_nil (h2 _ ?_))))))
  rw [List.length_map]
  refine ok_seq fun K3 h3 => ?_
  refine ok_seq fun K4 h4 => ok_region rfl (q_as _ rfl (run_nil (h4 _ ?_)))
  refine ok_block ?_
  refine ok_loop (fun (rs : List SV) => ⟨[(0, .sv (eRingNodeS x)), (3, .own 7), (4, .sv (int rs.length))], [(7, .row 3 45 (rs ++ List.replicate (x.length - rs.length) (.agg [.raw (.string ⟨#[]⟩), .raw (.int .i64 0), .raw (.slice none 0 0)])))]⟩) (fun rs => rs.length ≤ x.length ∧ Cps w0 rs ((x.take rs.length).map eRingNode)) (fun rs => x.length - rs.length) [] ⟨Nat.zero_le _, Cps.nil w0⟩ (le_sub ⟨rfl, rfl, rfl, trivial⟩ ⟨rfl, trivial⟩) (fun rs J => ?_)
  obtain ⟨j1, j2⟩ := J
  refine ok_seq fun K5 h5 => ?_
  refine ok_seq fun K6 h6 => ok_region rfl (q_mv _ rfl (q_mv _ rfl (q_len eS22 rfl (q_bin _ _ _ rfl rfl rfl (run_nil (h6 _ ?_))))))
  rw [List.length_map]
  refine ok_cond rfl (fun c7 => ?_) (fun c7 => ?_)
  · refine ok_skip (h5 _ ?_)
    have hk : rs.length < x.length := by simpa using c7
    obtain ⟨u, hu⟩ := sget hk
    refine ok_seq fun K8 h8 => ?_
    refine ok_block ?_
    refine ok_last fun K9 h9 => ok_region rfl (q_mo _ rfl (q_mv _ rfl (q_mv _ rfl (q_mv _ rfl (q_ia el22 rfl rfl (by omega) (mget (f := eRingNode) hu) (q_lds _ ag42 rfl sz42 (q_callr (f18_t u (hx.2 u (smem hu))) cl18 rfl (fun r hr hz hap => ?_))))))))
    have hfresh := j2.snoc hr (fun y hy b hb => hap.2 7 3 45 _ y b rfl (List.mem_append_left _ hy) hb) hz
    rw [show (x.take rs.length).map eRingNode ++ [eRingNode u] = (x.take (rs ++ [r]).length).map eRingNode by rw [List.length_append, List.length_cons, List.length_nil, List.take_add_one, hu, List.map_append]; rfl] at hfresh
    obtain ⟨Z2, v2, rfl⟩ := gi_RingNode hr
    refine q_iao el29 rfl rfl rfl (by omega) (by simp; omega) (q_ste sz45 rfl rfl (fillR_get hk) rfl (.inl ⟨_, rfl⟩) rfl (run_nil (h9 _ (h8 _ ?_))))
    refine ok_last fun K10 h10 => ok_region rfl (q_mv _ rfl (q_add rfl rfl (by omega) (q_as _ rfl (run_nil (h10 _ (⟨rs ++ [.agg [str u.id, int u.st, .tr Z2 (ints u.toks) v2]], by simp only [List.length_append, List.length_cons, List.length_nil]; omega, ⟨by simp only [List.length_append, List.length_cons, List.length_nil]; omega, hfresh⟩, ?_⟩))))))
    rw [← fillR_set hk]
    have e : ((rs ++ [(.agg [str u.id, int u.st, .tr Z2 (ints u.toks) v2] : SV)]).length : Int) = (rs.length : Int) + 1 := by simp
    rw [e]
    exact le_sub ⟨rfl, rfl, rfl, trivial⟩ ⟨rfl, trivial⟩
  · have hk : rs.length = x.length := by have : ¬ ((rs.length : Int) < x.length) := by simpa using c7
                                         omega
    have e : rs ++ List.replicate (x.length - rs.length) (.agg [.raw (.string ⟨#[]⟩), .raw (.int .i64 0), .raw (.slice none 0 0)]) = rs := by rw [hk, Nat.sub_self]; simp
    rw [hk, List.take_length] at j2
    rw [e]
    refine ok_exit (h3 _ ?_)
    refine ok_seq fun K11 h11 => ok_region rfl (q_mo _ rfl (q_ao _ rfl (run_nil (h11 _ ?_))))
    refine ok_treed (k := 7) (n := 3) (T := 45) (rs := rs) (ss := x.map eRingNode) rfl j2.len j2.gd j2.ap (fun r hr b hb => .inl (j2.nw r hr b hb)) (fun Z v hZ => ?_)
    exact ok_ret ⟨_, ⟨_, _, rfl, rfl, rfl⟩, .tr Z 3 _ v, fun b hb => (hZ b (zn_tr hb)).elim id fun h => h.elim⟩
theorem f138_n (k : Int) : PFn Tryz.prog 138 [.sl 3 [], int k] (int k) := by
  refine fn_ok' (n := 35) Tryz.func138 rfl rfl rfl (Nat.le_of_ble_eq_true rfl) rfl fun w0 O => ?_
  refine ok_seq fun K1 h1 => ok_region rfl (q_as _ rfl (run_nil (h1 _ ?_)))
  refine ok_seq fun K2 h2 => ?_
  refine ok_seq fun K3 h3 => ok_region rfl (q_as _ rfl (run_nil (h3 _ ?_)))
  refine ok_block ?_
  refine ok_loop (fun (_ : Nat) => ⟨[(0, .sv (.sl 3 [])), (1, .sv (int k)), (5, .sv (int 0))], []⟩) (fun k => True) (fun k => 0) 0 trivial (le_same ⟨rfl, rfl, rfl, trivial⟩) (fun _ J => ?_)
  refine ok_seq fun K4 h4 => ?_
  refine ok_seq fun K5 h5 => ok_region rfl (q_mv _ rfl (q_mv _ rfl (q_len eS29 rfl (q_bin _ _ _ rfl rfl rfl (run_nil (h5 _ ?_))))))
  refine ok_cond rfl (fun c6 => ?_) (fun c6 => ?_)
  · simp at c6
  · refine ok_exit (h2 _ ?_)
    refine ok_seq fun K14 h14 => ok_region rfl (q_mv _ rfl (q_as _ rfl (run_nil (h14 _ ?_))))
    exact ok_ret ⟨_, rfl, rfl⟩
theorem f138_m (l : List RingNode) (hs : l.length ≤ 1048576 ∧ ∀ y ∈ l, NRingNode y) (k : Nat) (h0 : 1 ≤ k) (hk : k + cL cRingNode l ≤ 1152921504606846976) : MarkC Tryz.prog 138 (eRingNodeS l) k (fun k' s' => k' = ((k + cL cRingNode l : Nat) : Int) ∧ ∃ l', s' = eRingNodeS l' ∧ HL cRingNode hRingNode l' k ∧ cL cRingNode l' = cL cRingNode l ∧ l'.length ≤ 1048576 ∧ ∀ y ∈ l', NRingNode y) := by
  refine fnm_ok (t := 4) (n := 3) (l := l.map eRingNode) Tryz.func138 rfl rfl rfl (by decide) (fun hn w v hr => ?_) (fun w0 Z v T rs hlen hpos hgd hap hzn => ?_)
  · have hl0 : l = [] := by simpa using hn
    subst hl0
    exact (hnil_of (f138_n k) w v hr).mono fun e w' ⟨he, hx⟩ => ⟨_, _, he, ⟨rfl, [], rfl, trivial, rfl, ⟨by simp, by simp⟩⟩, rfl, hx⟩
  · have S : ShG Z eRingNode rs l := ⟨by simpa using hlen, hap, hzn, fun j r x hr hx => hgd j r _ hr (mget hx)⟩
    refine ok_seq fun K1 h1 => ok_region rfl (q_as _ rfl (run_nil (h1 _ ?_)))
    refine ok_seq fun K2 h2 => ?_
    refine ok_seq fun K3 h3 => ok_region rfl (q_as _ rfl (run_nil (h3 _ ?_)))
    refine ok_block ?_
    refine ok_loop (fun (s : List RingNode × List RingNode × List SV × Nat) => ⟨[(0, .own 0), (1, .sv (int (s.2.2.2 : Int))), (5, .sv (int (s.1.length : Int)))], [(0, .row 3 T s.2.2.1)]⟩) (fun s => ShG Z eRingNode s.2.2.1 (s.1 ++ s.2.1) ∧ s.2.2.2 = k + cL cRingNode s.1 ∧ HL cRingNode hRingNode s.1 k ∧ cL cRingNode s.1 + cL cRingNode s.2.1 = cL cRingNode l ∧ s.1.length + s.2.1.length = l.length ∧ (∀ z ∈ s.1, NRingNode z) ∧ ∀ z ∈ s.2.1, NRingNode z) (fun s => s.2.1.length) ([], l, rs, k) ⟨S, rfl, trivial, by simp [cL], by simp, by simp, hs.2⟩ (le_sub ⟨rfl, rfl, rfl, trivial⟩ ⟨rfl, trivial⟩) (fun s J => ?_)
    clear S hlen hgd hap hzn
    obtain ⟨d, rest, rs, kk⟩ := s
    obtain ⟨S, j2, j3, j4, j5, j6, j7⟩ := J
    simp only at S j2 j3 j4 j5 j6 j7
    have hll : l.length ≤ 1048576 := hs.1
    have hsl := S.len
    rw [List.length_append] at hsl
    refine ok_seq fun K4 h4 => ?_
    refine ok_seq fun K5 h5 => ok_region rfl (q_mv _ rfl (q_mo _ rfl (q_leno eS29 rfl rfl (q_bin _ _ _ rfl rfl rfl (run_nil (h5 _ ?_))))))
    refine ok_cond rfl (fun c6 => ?_) (fun c6 => ?_)
    · have hi : d.length < rs.length := by simpa using c6
      obtain ⟨u, rest, rfl⟩ : ∃ u t, rest = u :: t := by cases rest with | nil => simp at hsl; omega | cons u t => exact ⟨u, t, rfl⟩
      obtain ⟨r, hr0, hg⟩ := S.here
      obtain ⟨u0, u1, u2⟩ := u
      obtain ⟨Z2, v2, rfl⟩ := gi_RingNode hg
      have hc : cL cRingNode ((⟨u0, u1, u2⟩ : RingNode) :: rest) = (1 + 1 + cL cOne u2) + cL cRingNode rest := rfl
      rw [hc] at j4
      rw [List.length_cons] at j5
      have hNu := j7 _ (List.mem_cons_self ..)
      have hn2 : u2.length ≤ 1048576 := hNu
      refine ok_skip (h4 _ ?_)
      refine ok_seq fun K7 h7 => ?_
      refine ok_block ?_
      refine ok_seq fun K8 h8 => ok_region rfl (q_mo _ rfl (q_mv _ rfl (q_mv _ rfl (q_call (f104_ok (kk) (by omega) (by omega)) cl104 rfl rfl (q_iao el29 rfl rfl rfl (by omega) (slt hr0) (q_fae fd45_0 rfl (by decide) (q_stef sz9 rfl rfl hr0 (by simp) rfl rfl rfl (run_nil (h8 _ ?_)))))))))
      have S1 := S.set (u' := (⟨markT (kk), u1, u2⟩ : RingNode)) hr0 (r' := .agg [str (markT (kk)), int u1, .tr Z2 (ints u2) v2]) (gc_RingNode (⟨markT (kk), u1, u2⟩ : RingNode) ) (fun b hb => by simp only [znA_cons, znI_raw, znI_tr, znA_nil, or_false, false_or] at hb ⊢; exact hb)
      have hr1 := set_self_getG (x := (.agg [str (markT (kk)), int u1, .tr Z2 (ints u2) v2] : SV)) hr0
      refine ok_seq fun K9 h9 => ok_region rfl (q_mv _ rfl (q_add rfl rfl (by show -9223372036854775808 ≤ ((kk : Nat) : Int) + 1 ∧ ((kk : Nat) : Int) + 1 ≤ 9223372036854775807; omega) (q_as _ rfl (run_nil (h9 _ ?_)))))
      refine ok_seq fun K10 h10 => ok_region rfl (q_mo _ rfl (q_mv _ rfl (q_mv _ rfl (q_iao el29 rfl rfl rfl (by omega) (slt hr1) (q_fae fd45_1 rfl (by decide) (q_stef sz3 rfl rfl hr1 (by simp) rfl rfl rfl (run_nil (h10 _ ?_))))))))
      have S2 := S1.set (u' := (⟨markT (kk), ((kk + 1 : Nat) : Int), u2⟩ : RingNode)) hr1 (r' := .agg [str (markT (kk)), int (((kk + 1 : Nat) : Int)), .tr Z2 (ints u2) v2]) (gc_RingNode (⟨markT (kk), ((kk + 1 : Nat) : Int), u2⟩ : RingNode) ) (fun b hb => by simp only [znA_cons, znI_raw, znI_tr, znA_nil, or_false, false_or] at hb ⊢; exact hb)
      have hr2 := set_self_getG (x := (.agg [str (markT (kk)), int (((kk + 1 : Nat) : Int)), .tr Z2 (ints u2) v2] : SV)) hr1
      refine ok_seq fun K11 h11 => ok_region rfl (q_mv _ rfl (q_add rfl rfl (by show -9223372036854775808 ≤ ((kk + 1 : Nat) : Int) + 1 ∧ ((kk + 1 : Nat) : Int) + 1 ≤ 9223372036854775807; omega) (q_as _ rfl (run_nil (h11 _ ?_)))))
      refine ok_last fun K12 h12 => ok_region rfl (q_mo _ rfl (q_mv _ rfl (q_iao el29 rfl rfl rfl (by omega) (slt hr2) (q_fae fd45_2 rfl (by decide) (q_ldef (.tr Z2 (ints u2) v2) ag40 rfl rfl hr2 rfl (q_mv _ rfl (q_mark (k := ((kk + 1 + 1 : Nat) : Int)) (f29_m u2 hn2 (kk + 1 + 1) (by omega) (by omega)) cl29 rfl rfl (fun b hb => .inr (S2.zn _ (smem hr2) b (.agg _ (.tr Z2 (ints u2) v2) (by simp) (.tr Z2 (ints u2) v2 hb)))) (fun _ => mkDT _) (fun s' => [(0, .row 3 T (_))]) (fun s' => mkDT_ok _) (fun s' => ⟨rfl, mk_rowG (r' := .agg [str (markT (kk)), int (((kk + 1 : Nat) : Int)), .tr Z2 s' v2]) S2 hr2 (fun b hb => (.agg _ (.tr Z2 (ints u2) v2) (by simp) (.tr Z2 (ints u2) v2 hb))) (mk_aggL ⟨.raw _, .raw _, .same, trivial⟩), trivial⟩) (fun k' s' hR => ?_))))))))
      obtain ⟨rfl, w2, rfl, hh2, hc2, hm2⟩ := hR
      refine q_as _ rfl (run_nil (h12 _ (h7 _ ?_)))
      have S3 := S2.set (u' := (⟨markT (kk), ((kk + 1 : Nat) : Int), w2⟩ : RingNode)) hr2 (r' := .agg [str (markT (kk)), int (((kk + 1 : Nat) : Int)), .tr Z2 (ints w2) v2]) (gc_RingNode (⟨markT (kk), ((kk + 1 : Nat) : Int), w2⟩ : RingNode) ) (fun b hb => by simp only [znA_cons, znI_raw, znI_tr, znA_nil, or_false, false_or] at hb ⊢; exact hb)
      have hr3 := set_self_getG (x := (.agg [str (markT (kk)), int (((kk + 1 : Nat) : Int)), .tr Z2 (ints w2) v2] : SV)) hr2
      have hcU : cRingNode (⟨markT (kk), ((kk + 1 : Nat) : Int), w2⟩ : RingNode) = 1 + 1 + cL cOne w2 := rfl
      have hLU : cL cRingNode (d ++ [(⟨markT (kk), ((kk + 1 : Nat) : Int), w2⟩ : RingNode)]) = cL cRingNode d + (1 + 1 + cL cOne w2) := by rw [cL_snoc, hcU]
      have hHU : HL cRingNode hRingNode (d ++ [(⟨markT (kk), ((kk + 1 : Nat) : Int), w2⟩ : RingNode)]) k := HL_snoc j3 (by rw [← j2]; exact ⟨rfl, rfl, (by show HL cOne hInt w2 (kk + 1 + 1); exact hh2)⟩)
      rw [List.append_cons] at S3
      have hNU : NRingNode (⟨markT (kk), ((kk + 1 : Nat) : Int), w2⟩ : RingNode) := hm2
      refine ok_last fun K13 h13 => ok_region rfl (q_mv _ rfl (q_add rfl rfl (by show -9223372036854775808 ≤ ((d.length : Nat) : Int) + 1 ∧ ((d.length : Nat) : Int) + 1 ≤ 9223372036854775807; omega) (q_as _ rfl (run_nil (h13 _ (⟨(d ++ [(⟨markT (kk), ((kk + 1 : Nat) : Int), w2⟩ : RingNode)], rest, _, kk + 1 + 1 + cL cOne u2), by simp, ⟨S3, by show kk + 1 + 1 + cL cOne u2 = _; rw [hLU]; omega, hHU, by show cL cRingNode (d ++ [(⟨markT (kk), ((kk + 1 : Nat) : Int), w2⟩ : RingNode)]) + cL _ rest = _; rw [hLU]; omega, by show (d ++ [_]).length + rest.length = _; rw [List.length_append, List.length_singleton]; omega, fun z hz => (List.mem_append.1 hz).elim (j6 z) (fun h => by rw [List.mem_singleton] at h; subst h; exact hNU), fun z hz => j7 z (List.mem_cons_of_mem _ hz)⟩, le_sub ⟨rfl, rfl, (congrArg (fun n : Int => some (LV.sv (int n))) (show ((d.length : Nat) : Int) + 1 = ((d ++ [(⟨markT (kk), ((kk + 1 : Nat) : Int), w2⟩ : RingNode)]).length : Nat) from by simp)), trivial⟩ ⟨rfl, trivial⟩⟩))))))
    · have hi : ¬ d.length < rs.length := by simpa using c6
      have hrest : rest = [] := by cases rest with | nil => rfl | cons u t => simp at hsl; omega
      subst hrest
      rw [List.append_nil] at S
      simp only [cL] at j4
      rw [List.length_nil] at j5
      have hkk : kk = k + cL cRingNode l := by omega
      refine ok_exit (h2 _ ?_)
      refine ok_seq fun K14 h14 => ok_region rfl (q_mv _ rfl (q_as _ rfl (run_nil (h14 _ ?_))))
      exact ok_ret ⟨_, rs, d.map eRingNode, rfl, rfl, by simpa using S.len, fun j r s hr hs => (by rw [List.getElem?_map] at hs; obtain ⟨x, hx, rfl⟩ := Option.map_eq_some_iff.1 hs; exact S.gd j r x hr hx), S.ap, S.zn, by rw [hkk], d, rfl, j3, by omega, ⟨by omega, j6⟩⟩
theorem f139_h (l : List RingNode) (hs : l.length ≤ 1048576 ∧ ∀ y ∈ l, NRingNode y) (k : Nat) (h0 : 1 ≤ k) (hk : k + cL cRingNode l ≤ 1152921504606846976) (hh : HL cRingNode hRingNode l k) : PFn Tryz.prog 139 [eRingNodeS l, int k] (int ((k + cL cRingNode l : Nat) : Int)) := by
  refine fn_ok' (n := 41) Tryz.func139 rfl rfl rfl (Nat.le_of_ble_eq_true rfl) rfl fun w0 O => ?_
  refine ok_seq fun K1 h1 => ok_region rfl (q_as _ rfl (run_nil (h1 _ ?_)))
  refine ok_seq fun K2 h2 => ?_
  refine ok_seq fun K3 h3 => ok_region rfl (q_as _ rfl (run_nil (h3 _ ?_)))
  refine ok_block ?_
  refine ok_loop (fun (s : List RingNode × List RingNode × Nat) => ⟨[(0, .sv (eRingNodeS l)), (1, .sv (int (s.2.2 : Int))), (5, .sv (int (s.1.length : Int)))], []⟩) (fun s => l = s.1 ++ s.2.1 ∧ s.2.2 + cL cRingNode s.2.1 = k + cL cRingNode l ∧ HL cRingNode hRingNode s.2.1 s.2.2 ∧ k ≤ s.2.2) (fun s => s.2.1.length) ([], l, k) ⟨rfl, rfl, hh, Nat.le_refl _⟩ (le_same ⟨rfl, rfl, rfl, trivial⟩) (fun s J => ?_)
  obtain ⟨d, rest, kk⟩ := s
  obtain ⟨j1, j2, j3, j4⟩ := J
  simp only at j1 j2 j3 j4
  have hll : l.length ≤ 1048576 := hs.1
  have hdl : l.length = d.length + rest.length := by rw [j1, List.length_append]
  refine ok_seq fun K4 h4 => ?_
  refine ok_seq fun K5 h5 => ok_region rfl (q_mv _ rfl (q_mv _ rfl (q_len eS29 rfl (q_bin _ _ _ rfl rfl rfl (run_nil (h5 _ ?_))))))
  rw [List.length_map]
  refine ok_cond rfl (fun c6 => ?_) (fun c6 => ?_)
  · have hi : d.length < l.length := by simpa using c6
    obtain ⟨u, rest, rfl⟩ : ∃ u t, rest = u :: t := by cases rest with | nil => simp at hdl; omega | cons u t => exact ⟨u, t, rfl⟩
    have hu : l[d.length]? = some u := by rw [j1, List.getElem?_append_right (Nat.le_refl _), Nat.sub_self]; rfl
    have hNu := hs.2 u (smem hu)
    obtain ⟨u0, u1, u2⟩ := u
    obtain ⟨hE, j3⟩ := j3
    obtain ⟨e0, e1, e2⟩ : u0 = markT (kk) ∧ u1 = ((kk + 1 : Nat) : Int) ∧ HL cOne hInt u2 (kk + 1 + 1) := hE
    subst e0
    subst e1
    have hc : cL cRingNode ((⟨markT (kk), ((kk + 1 : Nat) : Int), u2⟩ : RingNode) :: rest) = (1 + 1 + cL cOne u2) + cL cRingNode rest := rfl
    rw [hc] at j2
    rw [List.length_cons] at hdl
    have hn2 : u2.length ≤ 1048576 := hNu
    refine ok_skip (h4 _ ?_)
    refine ok_seq fun K7 h7 => ?_
    refine ok_block ?_
    refine ok_seq fun K8 h8 => ?_
    refine ok_seq fun K9 h9 => ?_
    refine ok_region_i (by kernel_rfl) (by kernel_rfl) rfl (q_mv _ rfl (q_mv _ rfl (q_ia el29 rfl rfl (by omega) (mget (f := eRingNode) hu) (q_fa _ fd45_0 rfl rfl (by decide) (q_ld _ ag9 rfl rfl (q_mv _ rfl (q_call (f104_ok (kk) (by omega) (by omega)) cl104 rfl rfl (q_bin _ _ _ rfl rfl rfl (run_nil (h9 _ ?_))))))))))
    refine ok_cond rfl (fun c10 => ?_) (fun c10 => ?_)
    · simp at c10
    · refine ok_skip (h8 _ ?_)
      refine ok_seq fun K12 h12 => ok_region rfl (q_mv _ rfl (q_add rfl rfl (by show -9223372036854775808 ≤ ((kk : Nat) : Int) + 1 ∧ ((kk : Nat) : Int) + 1 ≤ 9223372036854775807; omega) (q_as _ rfl (run_nil (h12 _ ?_)))))
      refine ok_seq fun K13 h13 => ?_
      refine ok_seq fun K14 h14 => ok_region rfl (q_mv _ rfl (q_mv _ rfl (q_ia el29 rfl rfl (by omega) (mget (f := eRingNode) hu) (q_fa _ fd45_1 rfl rfl (by decide) (q_ld _ ag3 rfl rfl (q_mv _ rfl (q_bin _ _ _ rfl rfl rfl (run_nil (h14 _ ?_)))))))))
      refine ok_cond rfl (fun c15 => ?_) (fun c15 => ?_)
      · simp at c15
      · refine ok_skip (h13 _ ?_)
        refine ok_seq fun K17 h17 => ok_region rfl (q_mv _ rfl (q_add rfl rfl (by show -9223372036854775808 ≤ ((kk + 1 : Nat) : Int) + 1 ∧ ((kk + 1 : Nat) : Int) + 1 ≤ 9223372036854775807; omega) (q_as _ rfl (run_nil (h17 _ ?_)))))
        refine ok_seq fun K18 h18 => ?_
        refine ok_region rfl (q_mv _ rfl (q_mv _ rfl (q_ia el29 rfl rfl (by omega) (mget (f := eRingNode) hu) (q_fa _ fd45_2 rfl rfl (by decide) (q_ld _ ag40 rfl rfl (q_mv _ rfl (q_call (f30_h u2 hn2 (kk + 1 + 1) (by omega) (by omega) e2) cl30 rfl rfl (q_as _ rfl (run_nil (h18 _ ?_))))))))))
        refine ok_seq fun K19 h19 => ok_region rfl (q_mv _ rfl (q_bin _ _ _ rfl rfl rfl (run_nil (h19 _ ?_))))
        refine ok_cond rfl (fun c20 => ?_) (fun c20 => ?_)
        · have := of_decide_eq_true c20; omega
        · refine ok_skip (h7 _ ?_)
          refine ok_last fun K22 h22 => ok_region rfl (q_mv _ rfl (q_add rfl rfl (by show -9223372036854775808 ≤ ((d.length : Nat) : Int) + 1 ∧ ((d.length : Nat) : Int) + 1 ≤ 9223372036854775807; omega) (q_as _ rfl (run_nil (h22 _ (⟨(d ++ [(⟨markT (kk), ((kk + 1 : Nat) : Int), u2⟩ : RingNode)], rest, kk + 1 + 1 + cL cOne u2), by simp, ⟨by show l = (d ++ [_]) ++ rest; rw [j1, List.append_cons], by show kk + 1 + 1 + cL cOne u2 + cL cRingNode rest = _; omega, by have h9 := j3; rw [show kk + cRingNode (⟨markT (kk), ((kk + 1 : Nat) : Int), u2⟩ : RingNode) = kk + 1 + 1 + cL cOne u2 from by show kk + (1 + 1 + cL cOne u2) = _; omega] at h9; exact h9, by show k ≤ kk + 1 + 1 + cL cOne u2; omega⟩, le_same ⟨rfl, rfl, (congrArg (fun n : Int => some (LV.sv (int n))) (show ((d.length : Nat) : Int) + 1 = ((d ++ [(⟨markT (kk), ((kk + 1 : Nat) : Int), u2⟩ : RingNode)]).length : Nat) from by simp)), trivial⟩⟩))))))
  · have hi : ¬ d.length < l.length := by simpa using c6
    have hrest : rest = [] := by cases rest with | nil => rfl | cons u t => simp at hdl; omega
    subst hrest
    simp only [cL] at j2
    have hkk : kk = k + cL cRingNode l := by omega
    refine ok_exit (h2 _ ?_)
    refine ok_seq fun K23 h23 => ok_region rfl (q_mv _ rfl (q_as _ rfl (run_nil (h23 _ ?_))))
    subst hkk; exact ok_ret ⟨_, rfl, rfl⟩
theorem kc_RingNodeS (l : List RingNode) : KC (cL cRingNode l) (zRingNodeS l) 0 := kc_sl kc_RingNode l
theorem gi_Ring {x : Ring} {r : SV} (h : Gd r (eRing x)) : ∃ (Z1 : Nat → Prop) (v1 : Value), r = .agg [int x.copies, .tr Z1 (eRingNodeS x.nodes) v1] := by
  obtain ⟨rs, rfl, g, a⟩ := gd_agg_inv h
  obtain ⟨r0, q0, rfl, g0, g⟩ := g.inv_cons
  obtain ⟨r1, q1, rfl, g1, g⟩ := g.inv_cons
  obtain rfl := g.inv_nil
  obtain rfl := gd_raw_inv g0
  obtain ⟨Z1, v1, rfl⟩ := gd_sl_inv g1
  exact ⟨Z1, v1, rfl⟩
theorem gc_Ring (x : Ring) {Z1 : Nat → Prop} {v1 : Value}  : Gd (.agg [int x.copies, .tr Z1 (eRingNodeS x.nodes) v1]) (eRing x) := gd_agg ⟨.raw _, .tr _ _ _ _, trivial⟩ (AL_raw (AL_tr (fun b hb hb' => by simp only [znA_cons, znI_raw, znI_tr, znA_nil, or_false, false_or] at hb') trivial))
def NRing (x : Ring) : Prop := x.nodes.length ≤ 1048576 ∧ ∀ y ∈ x.nodes, NRingNode y
theorem nRing_of {x : Ring} (h : SRing x) : NRing x := ⟨(h).1, fun y hy => nRingNode_of ((h).2 y hy)⟩
theorem f54_t (x : Ring) (hx : SRing x) : PFnT Tryz.prog 54 [eRing x] (eRing x) := by
  refine fnp_ok (n := 12) Tryz.func54 rfl rfl rfl (Nat.le_of_ble_eq_true rfl) rfl fun w0 O => ?_
  refine ok_seq fun K1 h1 => ok_region rfl (q_boxs _ rfl (Nat.zero_lt_succ _) (q_alloc _ ze31 rfl rfl rfl rfl (run_nil (h1 _ ?_))))
  refine ok_seq fun K2 h2 => ok_region rfl (q_alloc _ ze31 rfl rfl rfl rfl (run_nil (h2 _ ?_)))
  refine ok_seq fun K3 h3 => ok_region rfl (q_fa _ fd24_0 rfl rfl (by decide) (q_ld _ ag3 rfl rfl (q_fap fd31_0 rfl (by decide) (q_st _ sz3 rfl rfl (Nat.le_of_ble_eq_true rfl) rfl ⟨_, rfl, rfl⟩ rfl (run_nil (h3 _ ?_))))))
  refine ok_seq fun K4 h4 => ok_region rfl (q_fa _ fd24_1 rfl rfl (by decide) (q_ld _ ag22 rfl rfl (q_callr (f127_t x.nodes (hx)) cl127 rfl (fun r1 hr1 hz1 ha1 => ?_))))
  obtain ⟨Z1, v1, rfl⟩ := gd_sl_inv hr1
  refine q_fap fd31_1 rfl (by decide) (q_st _ sz29 rfl rfl (Nat.le_of_ble_eq_true rfl) rfl ⟨_, rfl, rfl⟩ rfl (run_nil (h4 _ ?_)))
  refine ok_seq fun K5 h5 => ok_region rfl (q_ldbs ag31 rfl rfl sz31 rfl rfl (q_sts _ rfl rfl rfl sz31 (Nat.le_of_ble_eq_true rfl) rfl (run_nil (h5 _ ?_))))
  refine ok_ret ⟨[.agg [int x.copies, .tr Z1 (eRingNodeS x.nodes) v1]], ⟨_, _, res_cells (l := [int x.copies, .tr Z1 (eRingNodeS x.nodes) v1]) rfl rfl ag31 sz31 rfl, rfl, rfl⟩, gc_Ring x , fun b hb => ?_⟩
  have hb : Zn b (.agg [int x.copies, .tr Z1 (eRingNodeS x.nodes) v1]) := hb
  simp only [znA_cons, znI_raw, znI_tr, znA_nil, or_false, false_or] at hb
  exact hz1 b (.tr Z1 _ v1 hb)
def cmRing (x : Ring) : Nat := cL cRingNode x.nodes
def hmRing (x : Ring) (k : Nat) : Prop := HL cRingNode hRingNode x.nodes (k)
theorem f61_m (x : Ring) (hs : NRing x) (k : Nat) (h0 : 1 ≤ k) (hk : k + cmRing x ≤ 1152921504606846976) : MarkC Tryz.prog 61 (eRing x) k (fun k' s' => k' = ((k + cmRing x : Nat) : Int) ∧ ∃ x', s' = eRing x' ∧ hmRing x' k ∧ cmRing x' = cmRing x ∧ NRing x') := by
  have hcx : cmRing x = cL cRingNode x.nodes := rfl
  have hn1 : x.nodes.length ≤ 1048576 ∧ ∀ y ∈ x.nodes, NRingNode y := hs
  refine fns_ok (t := 4) (bx := 2) Tryz.func61 rfl rfl rfl (by decide) (fun w0 Z rs hG hA hZ => ?_)
  obtain ⟨Z1, v1, hrs⟩ := gi_Ring (x := x) (gd_agg hG hA)
  injection hrs with hrs
  subst hrs
  refine ⟨rfl, ?_⟩
  refine ok_seq fun K1 h1 => ok_region rfl (q_boxo (cells := [.sv (int x.copies), .sv (.tr Z1 (eRingNodeS x.nodes) v1)]) _ rfl (.inl ⟨_, rfl⟩) rfl rfl rfl (q_as _ rfl (run_nil (h1 _ ?_))))
  refine ok_seq fun K2 h2 => ok_region rfl (q_fap fd31_1 rfl (by decide) (q_ldb _ ag29 rfl rfl rfl (q_mv _ rfl (q_mark (k := ((k : Nat) : Int)) (f138_m x.nodes hn1 (k) (by omega) (by omega)) cl138 rfl rfl (fun b hb => .inr (hZ b (.agg _ (.tr Z1 (eRingNodeS x.nodes) v1) (by simp) (.tr Z1 (eRingNodeS x.nodes) v1 hb)))) (fun _ => mkDT _) (fun s' => [(2, .box [.sv (int x.copies), .sv (.tr Z1 s' v1)])]) (fun s' => mkDT_ok _) (fun s' => ⟨rfl, mk_box ⟨.sv (.raw _), .sv .same, trivial⟩, trivial⟩) (fun k' s' hR => ?_)))))
  obtain ⟨rfl, w1, rfl, hh1, hc1, hm1⟩ := hR
  refine q_as _ rfl (run_nil (h2 _ ?_))
  refine ok_seq fun K3 h3 => ok_region rfl (q_mv _ rfl (q_as _ rfl (run_nil (h3 _ ?_))))
  exact ok_ret ⟨_, [int x.copies, .tr Z1 (eRingNodeS w1) v1], [int x.copies, eRingNodeS w1], rfl, rfl, rfl, rfl, ⟨.raw _, .tr _ _ _ _, trivial⟩, (AL_raw (AL_tr (fun b hb hb' => by simp only [znA_cons, znI_raw, znI_tr, znA_nil, or_false, false_or] at hb') trivial)), (fun b hb => by simp only [znA_cons, znI_raw, znI_tr, znA_nil, or_false, false_or] at hb; exact hZ b (by simp only [znA_cons, znI_raw, znI_tr, znA_nil, or_false, false_or]; exact hb)), by rw [hcx] <;> first | rfl | (congr 1; omega), (⟨x.copies, w1⟩ : Ring), rfl, (by show HL cRingNode hRingNode w1 (k); exact hh1), by show cL cRingNode w1 = _; rw [hcx]; omega, hm1⟩
theorem f63_h (x : Ring) (hs : NRing x) (k : Nat) (h0 : 1 ≤ k) (hk : k + cmRing x ≤ 1152921504606846976) (hh : hmRing x k) : PFn Tryz.prog 63 [eRing x, int k] (int ((k + cmRing x : Nat) : Int)) := by
  have hcx : cmRing x = cL cRingNode x.nodes := rfl
  have hn1 : x.nodes.length ≤ 1048576 ∧ ∀ y ∈ x.nodes, NRingNode y := hs
  have e1 : HL cRingNode hRingNode x.nodes (k) := hh
  refine fn_ok' (n := 12) Tryz.func63 rfl rfl rfl (Nat.le_of_ble_eq_true rfl) rfl fun w0 O => ?_
  refine ok_seq fun K1 h1 => ok_region rfl (q_boxs _ rfl (Nat.zero_lt_succ _) (q_as _ rfl (run_nil (h1 _ ?_))))
  refine ok_seq fun K2 h2 => ok_region rfl (q_fa _ fd31_1 rfl rfl (by decide) (q_ld _ ag29 rfl rfl (q_mv _ rfl (q_call (f139_h x.nodes hn1 (k) (by omega) (by omega) e1) cl139 rfl rfl (q_as _ rfl (run_nil (h2 _ ?_)))))))
  refine ok_seq fun K3 h3 => ?_
  refine ok_seq fun K4 h4 => ok_region rfl (q_mv _ rfl (q_bin _ _ _ rfl rfl rfl (run_nil (h4 _ ?_))))
  refine ok_cond rfl (fun c5 => ?_) (fun c5 => ?_)
  · have := of_decide_eq_true c5; omega
  · refine ok_skip (h3 _ ?_)
    refine ok_seq fun K7 h7 => ok_region rfl (q_mv _ rfl (q_as _ rfl (run_nil (h7 _ ?_))))
    have hE : k + cmRing x = k + cL cRingNode x.nodes := by rw [hcx] <;> omega
    exact ok_ret ⟨_, rfl, by first | (rw [hE]; done) | (rw [hE]; rfl)⟩
def cLabel (x : Label) : Nat := 1 + 1
def hLabel (x : Label) (k : Nat) : Prop := x.name = markT (k) ∧ x.value = markT (k + 1)
theorem kc_Label (x : Label) : KC (cLabel x) (zLabel x) 16 := by
  have h : KC ((0 + (0))) (zLabel x) 0 := (kc_stp (kc_take0 x.name.size) (kc_take0 x.value.size))
  have e : cLabel x = 1 + 1 := rfl
  exact h.mono (by rw [e]; omega)
theorem f154_t (x : List Label) (hx : x.length ≤ 1048576 ∧ ∀ y ∈ x, SLabel y) : PFnT Tryz.prog 154 [eLabelS x] (eLabelS x) := by
  have hle : x.length ≤ 1048576 := hx.1
  refine fnp_ok (n := 23) Tryz.func154 rfl rfl rfl (Nat.le_of_ble_eq_true rfl) rfl fun w0 O => ?_
  refine ok_seq fun K1 h1 => ok_region rfl (q_as _ rfl (run_nil (h1 _ ?_)))
  refine ok_seq fun K2 h2 => ok_region rfl (q_mv _ rfl (q_len eS108 rfl (q_make _ _ el78 (by decide) ze190 rfl by190 rfl rfl rfl rfl (.inl ⟨rfl, rfl, rfl⟩) (by rw [List.length_map]; exact Nat.le_trans hle (by decide)) (by rw [List.length_map]; omega) (q_ao _ rfl (run_nil (h2 _ ?_))))))
  rw [List.length_map]
  refine ok_seq fun K3 h3 => ?_
  refine ok_seq fun K4 h4 => ok_region rfl (q_as _ rfl (run_nil (h4 _ ?_)))
  refine ok_block ?_
  refine ok_loop (fun (k : Nat) => ⟨[(0, .sv (eLabelS x)), (3, .own 7), (4, .sv (int k))], [(7, .row 2 190 (fill eLabel (.agg [.raw (.string ⟨#[]⟩), .raw (.string ⟨#[]⟩)]) x k))]⟩) (fun k => k ≤ x.length) (fun k => x.length - k) 0 (Nat.zero_le _) (by rw [fill_zero]; exact le_sub ⟨rfl, rfl, rfl, trivial⟩ ⟨rfl, trivial⟩) (fun k J => ?_)
  refine ok_seq fun K5 h5 => ?_
  refine ok_seq fun K6 h6 => ok_region rfl (q_mv _ rfl (q_mv _ rfl (q_len eS108 rfl (q_bin _ _ _ rfl rfl rfl (run_nil (h6 _ ?_))))))
  rw [List.length_map]
  refine ok_cond rfl (fun c7 => ?_) (fun c7 => ?_)
  · refine ok_skip (h5 _ ?_)
    have hk : k < x.length := by simpa using c7
    obtain ⟨u, hu⟩ := sget hk
    refine ok_seq fun K8 h8 => ?_
    refine ok_block ?_
    refine ok_last fun K9 h9 => ok_region rfl (q_mo _ rfl (q_mv _ rfl (q_mv _ rfl (q_mv _ rfl (q_ia el108 rfl rfl (by omega) (mget hu) (q_lds _ ag213 rfl sz213 (q_call (f207_ok u (hx.2 u (smem hu))) cl207 rfl rfl (q_iao el78 rfl rfl rfl (by omega) (by rw [fill_len _ _ _ J]; exact hk) (
      q_ste sz190 rfl rfl (fill_get _ _ _ hk) rfl (.inl ⟨_, rfl⟩) rfl (run_nil (h9 _ (h8 _ ?_))))))))))))
    refine ok_region rfl (q_mv _ rfl (q_add rfl rfl (by omega) (q_as _ rfl (run_nil (⟨k + 1, by omega, hk, ?_⟩)))))
    rw [← fill_set eLabel (.agg [.raw (.string ⟨#[]⟩), .raw (.string ⟨#[]⟩)]) hu]
    exact le_sub ⟨rfl, rfl, rfl, trivial⟩ ⟨rfl, trivial⟩
  · rw [fill_all _ _ _ (by simpa using c7)]
    obtain ⟨g1, g2, g3⟩ := gd_flatL (rs := x.map eLabel) (fun r hr => by obtain ⟨y, _, rfl⟩ := List.mem_map.1 hr; rfl)
    refine ok_exit (h3 _ ?_)
    refine ok_seq fun K9 h9 => ok_region rfl (q_mo _ rfl (q_ao _ rfl (run_nil (h9 _ ?_))))
    refine ok_treed (k := 7) (n := 2) (T := 190) (rs := x.map eLabel) (ss := x.map eLabel) rfl rfl g1 g2 (fun r hr b hb => (g3 r hr b hb).elim) (fun Z v hZ => ?_)
    exact ok_ret ⟨_, ⟨_, _, rfl, rfl, rfl⟩, .tr Z 2 _ v, fun b hb => (hZ b (zn_tr hb)).elim id fun h => h.elim⟩
theorem f91_n (k : Int) : PFn Tryz.prog 91 [.sl 2 [], int k] (int k) := by
  refine fn_ok' (n := 29) Tryz.func91 rfl rfl rfl (Nat.le_of_ble_eq_true rfl) rfl fun w0 O => ?_
  refine ok_seq fun K1 h1 => ok_region rfl (q_as _ rfl (run_nil (h1 _ ?_)))
  refine ok_seq fun K2 h2 => ?_
  refine ok_seq fun K3 h3 => ok_region rfl (q_as _ rfl (run_nil (h3 _ ?_)))
  refine ok_block ?_
  refine ok_loop (fun (_ : Nat) => ⟨[(0, .sv (.sl 2 [])), (1, .sv (int k)), (5, .sv (int 0))], []⟩) (fun k => True) (fun k => 0) 0 trivial (le_same ⟨rfl, rfl, rfl, trivial⟩) (fun _ J => ?_)
  refine ok_seq fun K4 h4 => ?_
  refine ok_seq fun K5 h5 => ok_region rfl (q_mv _ rfl (q_mv _ rfl (q_len eS78 rfl (q_bin _ _ _ rfl rfl rfl (run_nil (h5 _ ?_))))))
  refine ok_cond rfl (fun c6 => ?_) (fun c6 => ?_)
  · simp at c6
  · refine ok_exit (h2 _ ?_)
    refine ok_seq fun K13 h13 => ok_region rfl (q_mv _ rfl (q_as _ rfl (run_nil (h13 _ ?_))))
    exact ok_ret ⟨_, rfl, rfl⟩
theorem f91_m (l : List Label) (hs : l.length ≤ 1048576) (k : Nat) (h0 : 1 ≤ k) (hk : k + cL cLabel l ≤ 1152921504606846976) : MarkC Tryz.prog 91 (eLabelS l) k (fun k' s' => k' = ((k + cL cLabel l : Nat) : Int) ∧ ∃ l', s' = eLabelS l' ∧ HL cLabel hLabel l' k ∧ cL cLabel l' = cL cLabel l ∧ l'.length ≤ 1048576) := by
  refine fnm_ok (t := 4) (n := 2) (l := l.map eLabel) Tryz.func91 rfl rfl rfl (by decide) (fun hn w v hr => ?_) (fun w0 Z v T rs hlen hpos hgd hap hzn => ?_)
  · have hl0 : l = [] := by simpa using hn
    subst hl0
    exact (hnil_of (f91_n k) w v hr).mono fun e w' ⟨he, hx⟩ => ⟨_, _, he, ⟨rfl, [], rfl, trivial, rfl, by simp⟩, rfl, hx⟩
  · have S : ShG Z eLabel rs l := ⟨by simpa using hlen, hap, hzn, fun j r x hr hx => hgd j r _ hr (mget hx)⟩
    refine ok_seq fun K1 h1 => ok_region rfl (q_as _ rfl (run_nil (h1 _ ?_)))
    refine ok_seq fun K2 h2 => ?_
    refine ok_seq fun K3 h3 => ok_region rfl (q_as _ rfl (run_nil (h3 _ ?_)))
    refine ok_block ?_
    refine ok_loop (fun (s : List Label × List Label × List SV × Nat) => ⟨[(0, .own 0), (1, .sv (int (s.2.2.2 : Int))), (5, .sv (int (s.1.length : Int)))], [(0, .row 2 T s.2.2.1)]⟩) (fun s => ShG Z eLabel s.2.2.1 (s.1 ++ s.2.1) ∧ s.2.2.2 = k + cL cLabel s.1 ∧ HL cLabel hLabel s.1 k ∧ cL cLabel s.1 + cL cLabel s.2.1 = cL cLabel l ∧ s.1.length + s.2.1.length = l.length) (fun s => s.2.1.length) ([], l, rs, k) ⟨S, rfl, trivial, by simp [cL], by simp⟩ (le_sub ⟨rfl, rfl, rfl, trivial⟩ ⟨rfl, trivial⟩) (fun s J => ?_)
    clear S hlen hgd hap hzn
    obtain ⟨d, rest, rs, kk⟩ := s
    obtain ⟨S, j2, j3, j4, j5⟩ := J
    simp only at S j2 j3 j4 j5
    have hll : l.length ≤ 1048576 := hs
    have hsl := S.len
    rw [List.length_append] at hsl
    refine ok_seq fun K4 h4 => ?_
    refine ok_seq fun K5 h5 => ok_region rfl (q_mv _ rfl (q_mo _ rfl (q_leno eS78 rfl rfl (q_bin _ _ _ rfl rfl rfl (run_nil (h5 _ ?_))))))
    refine ok_cond rfl (fun c6 => ?_) (fun c6 => ?_)
    · have hi : d.length < rs.length := by simpa using c6
      obtain ⟨u, rest, rfl⟩ : ∃ u t, rest = u :: t := by cases rest with | nil => simp at hsl; omega | cons u t => exact ⟨u, t, rfl⟩
      obtain ⟨r, hr0, hg⟩ := S.here
      obtain ⟨u0, u1⟩ := u
      obtain rfl := flat_eq (s := eLabel ((⟨u0, u1⟩ : Label))) rfl hg
      have hc : cL cLabel ((⟨u0, u1⟩ : Label) :: rest) = (1 + 1) + cL cLabel rest := rfl
      rw [hc] at j4
      rw [List.length_cons] at j5
      refine ok_skip (h4 _ ?_)
      refine ok_seq fun K7 h7 => ?_
      refine ok_block ?_
      refine ok_seq fun K8 h8 => ok_region rfl (q_mo _ rfl (q_mv _ rfl (q_mv _ rfl (q_call (f104_ok (kk) (by omega) (by omega)) cl104 rfl rfl (q_iao el78 rfl rfl rfl (by omega) (slt hr0) (q_fae fd190_0 rfl (by decide) (q_stef sz9 rfl rfl hr0 (by simp) rfl rfl rfl (run_nil (h8 _ ?_)))))))))
      have S1 := S.set (u' := (⟨markT (kk), u1⟩ : Label)) hr0 (r' := .agg [str (markT (kk)), str u1]) (flat_gd (s := eLabel ((⟨markT (kk), u1⟩ : Label))) rfl) (fun b hb => (flat_zn rfl hb).elim)
      have hr1 := set_self_getG (x := (.agg [str (markT (kk)), str u1] : SV)) hr0
      refine ok_seq fun K9 h9 => ok_region rfl (q_mv _ rfl (q_add rfl rfl (by show -9223372036854775808 ≤ ((kk : Nat) : Int) + 1 ∧ ((kk : Nat) : Int) + 1 ≤ 9223372036854775807; omega) (q_as _ rfl (run_nil (h9 _ ?_)))))
      refine ok_seq fun K10 h10 => ok_region rfl (q_mo _ rfl (q_mv _ rfl (q_mv _ rfl (q_call (f104_ok (kk + 1) (by omega) (by omega)) cl104 rfl rfl (q_iao el78 rfl rfl rfl (by omega) (slt hr1) (q_fae fd190_1 rfl (by decide) (q_stef sz9 rfl rfl hr1 (by simp) rfl rfl rfl (run_nil (h10 _ ?_)))))))))
      have S2 := S1.set (u' := (⟨markT (kk), markT (kk + 1)⟩ : Label)) hr1 (r' := .agg [str (markT (kk)), str (markT (kk + 1))]) (flat_gd (s := eLabel ((⟨markT (kk), markT (kk + 1)⟩ : Label))) rfl) (fun b hb => (flat_zn rfl hb).elim)
      have hr2 := set_self_getG (x := (.agg [str (markT (kk)), str (markT (kk + 1))] : SV)) hr1
      refine ok_last fun K11 h11 => ok_region rfl (q_mv _ rfl (q_add rfl rfl (by show -9223372036854775808 ≤ ((kk + 1 : Nat) : Int) + 1 ∧ ((kk + 1 : Nat) : Int) + 1 ≤ 9223372036854775807; omega) (q_as _ rfl (run_nil (h11 _ (h7 _ ?_))))))
      have hcU : cLabel (⟨markT (kk), markT (kk + 1)⟩ : Label) = 1 + 1 := rfl
      have hLU : cL cLabel (d ++ [(⟨markT (kk), markT (kk + 1)⟩ : Label)]) = cL cLabel d + (1 + 1) := by rw [cL_snoc, hcU]
      have hHU : HL cLabel hLabel (d ++ [(⟨markT (kk), markT (kk + 1)⟩ : Label)]) k := HL_snoc j3 (by rw [← j2]; exact ⟨rfl, rfl⟩)
      rw [List.append_cons] at S2
      refine ok_last fun K12 h12 => ok_region rfl (q_mv _ rfl (q_add rfl rfl (by show -9223372036854775808 ≤ ((d.length : Nat) : Int) + 1 ∧ ((d.length : Nat) : Int) + 1 ≤ 9223372036854775807; omega) (q_as _ rfl (run_nil (h12 _ (⟨(d ++ [(⟨markT (kk), markT (kk + 1)⟩ : Label)], rest, _, kk + 1 + 1), by simp, ⟨S2, by show kk + 1 + 1 = _; rw [hLU]; omega, hHU, by show cL cLabel (d ++ [(⟨markT (kk), markT (kk + 1)⟩ : Label)]) + cL _ rest = _; rw [hLU]; omega, by show (d ++ [_]).length + rest.length = _; rw [List.length_append, List.length_singleton]; omega⟩, le_sub ⟨rfl, rfl, (congrArg (fun n : Int => some (LV.sv (int n))) (show ((d.length : Nat) : Int) + 1 = ((d ++ [(⟨markT (kk), markT (kk + 1)⟩ : Label)]).length : Nat) from by simp)), trivial⟩ ⟨rfl, trivial⟩⟩))))))
    · have hi : ¬ d.length < rs.length := by simpa using c6
      have hrest : rest = [] := by cases rest with | nil => rfl | cons u t => simp at hsl; omega
      subst hrest
      rw [List.append_nil] at S
      simp only [cL] at j4
      rw [List.length_nil] at j5
      have hkk : kk = k + cL cLabel l := by omega
      refine ok_exit (h2 _ ?_)
      refine ok_seq fun K13 h13 => ok_region rfl (q_mv _ rfl (q_as _ rfl (run_nil (h13 _ ?_))))
      exact ok_ret ⟨_, rs, d.map eLabel, rfl, rfl, by simpa using S.len, fun j r s hr hs => (by rw [List.getElem?_map] at hs; obtain ⟨x, hx, rfl⟩ := Option.map_eq_some_iff.1 hs; exact S.gd j r x hr hx), S.ap, S.zn, by rw [hkk], d, rfl, j3, by omega, by omega⟩
theorem f106_h (l : List Label) (hs : l.length ≤ 1048576) (k : Nat) (h0 : 1 ≤ k) (hk : k + cL cLabel l ≤ 1152921504606846976) (hh : HL cLabel hLabel l k) : PFn Tryz.prog 106 [eLabelS l, int k] (int ((k + cL cLabel l : Nat) : Int)) := by
  refine fn_ok' (n := 33) Tryz.func106 rfl rfl rfl (Nat.le_of_ble_eq_true rfl) rfl fun w0 O => ?_
  refine ok_seq fun K1 h1 => ok_region rfl (q_as _ rfl (run_nil (h1 _ ?_)))
  refine ok_seq fun K2 h2 => ?_
  refine ok_seq fun K3 h3 => ok_region rfl (q_as _ rfl (run_nil (h3 _ ?_)))
  refine ok_block ?_
  refine ok_loop (fun (s : List Label × List Label × Nat) => ⟨[(0, .sv (eLabelS l)), (1, .sv (int (s.2.2 : Int))), (5, .sv (int (s.1.length : Int)))], []⟩) (fun s => l = s.1 ++ s.2.1 ∧ s.2.2 + cL cLabel s.2.1 = k + cL cLabel l ∧ HL cLabel hLabel s.2.1 s.2.2 ∧ k ≤ s.2.2) (fun s => s.2.1.length) ([], l, k) ⟨rfl, rfl, hh, Nat.le_refl _⟩ (le_same ⟨rfl, rfl, rfl, trivial⟩) (fun s J => ?_)
  obtain ⟨d, rest, kk⟩ := s
  obtain ⟨j1, j2, j3, j4⟩ := J
  simp only at j1 j2 j3 j4
  have hll : l.length ≤ 1048576 := hs
  have hdl : l.length = d.length + rest.length := by rw [j1, List.length_append]
  refine ok_seq fun K4 h4 => ?_
  refine ok_seq fun K5 h5 => ok_region rfl (q_mv _ rfl (q_mv _ rfl (q_len eS78 rfl (q_bin _ _ _ rfl rfl rfl (run_nil (h5 _ ?_))))))
  rw [List.length_map]
  refine ok_cond rfl (fun c6 => ?_) (fun c6 => ?_)
  · have hi : d.length < l.length := by simpa using c6
    obtain ⟨u, rest, rfl⟩ : ∃ u t, rest = u :: t := by cases rest with | nil => simp at hdl; omega | cons u t => exact ⟨u, t, rfl⟩
    have hu : l[d.length]? = some u := by rw [j1, List.getElem?_append_right (Nat.le_refl _), Nat.sub_self]; rfl
    obtain ⟨u0, u1⟩ := u
    obtain ⟨hE, j3⟩ := j3
    obtain ⟨e0, e1⟩ : u0 = markT (kk) ∧ u1 = markT (kk + 1) := hE
    subst e0
    subst e1
    have hc : cL cLabel ((⟨markT (kk), markT (kk + 1)⟩ : Label) :: rest) = (1 + 1) + cL cLabel rest := rfl
    rw [hc] at j2
    rw [List.length_cons] at hdl
    refine ok_skip (h4 _ ?_)
    refine ok_seq fun K7 h7 => ?_
    refine ok_block ?_
    refine ok_seq fun K8 h8 => ?_
    refine ok_seq fun K9 h9 => ?_
    refine ok_region_i (by kernel_rfl) (by kernel_rfl) rfl (q_mv _ rfl (q_mv _ rfl (q_ia el78 rfl rfl (by omega) (mget (f := eLabel) hu) (q_fa _ fd190_0 rfl rfl (by decide) (q_ld _ ag9 rfl rfl (q_mv _ rfl (q_call (f104_ok (kk) (by omega) (by omega)) cl104 rfl rfl (q_bin _ _ _ rfl rfl rfl (run_nil (h9 _ ?_))))))))))
    refine ok_cond rfl (fun c10 => ?_) (fun c10 => ?_)
    · simp at c10
    · refine ok_skip (h8 _ ?_)
      refine ok_seq fun K12 h12 => ok_region rfl (q_mv _ rfl (q_add rfl rfl (by show -9223372036854775808 ≤ ((kk : Nat) : Int) + 1 ∧ ((kk : Nat) : Int) + 1 ≤ 9223372036854775807; omega) (q_as _ rfl (run_nil (h12 _ ?_)))))
      refine ok_seq fun K13 h13 => ?_
      refine ok_seq fun K14 h14 => ?_
      refine ok_region_i (by kernel_rfl) (by kernel_rfl) rfl (q_mv _ rfl (q_mv _ rfl (q_ia el78 rfl rfl (by omega) (mget (f := eLabel) hu) (q_fa _ fd190_1 rfl rfl (by decide) (q_ld _ ag9 rfl rfl (q_mv _ rfl (q_call (f104_ok (kk + 1) (by omega) (by omega)) cl104 rfl rfl (q_bin _ _ _ rfl rfl rfl (run_nil (h14 _ ?_))))))))))
      refine ok_cond rfl (fun c15 => ?_) (fun c15 => ?_)
      · simp at c15
      · refine ok_skip (h13 _ ?_)
        refine ok_last fun K17 h17 => ok_region rfl (q_mv _ rfl (q_add rfl rfl (by show -9223372036854775808 ≤ ((kk + 1 : Nat) : Int) + 1 ∧ ((kk + 1 : Nat) : Int) + 1 ≤ 9223372036854775807; omega) (q_as _ rfl (run_nil (h17 _ (h7 _ ?_))))))
        refine ok_last fun K18 h18 => ok_region rfl (q_mv _ rfl (q_add rfl rfl (by show -9223372036854775808 ≤ ((d.length : Nat) : Int) + 1 ∧ ((d.length : Nat) : Int) + 1 ≤ 9223372036854775807; omega) (q_as _ rfl (run_nil (h18 _ (⟨(d ++ [(⟨markT (kk), markT (kk + 1)⟩ : Label)], rest, kk + 1 + 1), by simp, ⟨by show l = (d ++ [_]) ++ rest; rw [j1, List.append_cons], by show kk + 1 + 1 + cL cLabel rest = _; omega, by have h9 := j3; rw [show kk + cLabel (⟨markT (kk), markT (kk + 1)⟩ : Label) = kk + 1 + 1 from by show kk + (1 + 1) = _; omega] at h9; exact h9, by show k ≤ kk + 1 + 1; omega⟩, le_same ⟨rfl, rfl, (congrArg (fun n : Int => some (LV.sv (int n))) (show ((d.length : Nat) : Int) + 1 = ((d ++ [(⟨markT (kk), markT (kk + 1)⟩ : Label)]).length : Nat) from by simp)), trivial⟩⟩))))))
  · have hi : ¬ d.length < l.length := by simpa using c6
    have hrest : rest = [] := by cases rest with | nil => rfl | cons u t => simp at hdl; omega
    subst hrest
    simp only [cL] at j2
    have hkk : kk = k + cL cLabel l := by omega
    refine ok_exit (h2 _ ?_)
    refine ok_seq fun K19 h19 => ok_region rfl (q_mv _ rfl (q_as _ rfl (run_nil (h19 _ ?_))))
    subst hkk; exact ok_ret ⟨_, rfl, rfl⟩
theorem kc_LabelS (l : List Label) : KC (cL cLabel l) (zLabelS l) 0 := kc_sl kc_Label l
def cSample (x : Sample) : Nat := 1 + 1
def hSample (x : Sample) (k : Nat) : Prop := x.time = ((k : Nat) : Int) ∧ x.value = ((k + 1 : Nat) : Int)
theorem f238_t (x : List Sample) (hx : x.length ≤ 1048576) : PFnT Tryz.prog 238 [eSampleS x] (eSampleS x) := by
  have hle : x.length ≤ 1048576 := hx
  refine fnp_ok (n := 23) Tryz.func238 rfl rfl rfl (Nat.le_of_ble_eq_true rfl) rfl fun w0 O => ?_
  refine ok_seq fun K1 h1 => ok_region rfl (q_as _ rfl (run_nil (h1 _ ?_)))
  refine ok_seq fun K2 h2 => ok_region rfl (q_mv _ rfl (q_len eS205 rfl (q_make _ _ el123 (by decide) ze122 rfl by122 rfl rfl rfl rfl (.inl ⟨rfl, rfl, rfl⟩) (by rw [List.length_map]; exact Nat.le_trans hle (by decide)) (by rw [List.length_map]; omega) (q_ao _ rfl (run_nil (h2 _ ?_))))))
  rw [List.length_map]
  refine ok_seq fun K3 h3 => ?_
  refine ok_seq fun K4 h4 => ok_region rfl (q_as _ rfl (run_nil (h4 _ ?_)))
  refine ok_block ?_
  refine ok_loop (fun (k : Nat) => ⟨[(0, .sv (eSampleS x)), (3, .own 7), (4, .sv (int k))], [(7, .row 2 122 (fill eSample (.agg [.raw (.int .i64 0), .raw (.int .i64 0)]) x k))]⟩) (fun k => k ≤ x.length) (fun k => x.length - k) 0 (Nat.zero_le _) (by rw [fill_zero]; exact le_sub ⟨rfl, rfl, rfl, trivial⟩ ⟨rfl, trivial⟩) (fun k J => ?_)
  refine ok_seq fun K5 h5 => ?_
  refine ok_seq fun K6 h6 => ok_region rfl (q_mv _ rfl (q_mv _ rfl (q_len eS205 rfl (q_bin _ _ _ rfl rfl rfl (run_nil (h6 _ ?_))))))
  rw [List.length_map]
  refine ok_cond rfl (fun c7 => ?_) (fun c7 => ?_)
  · refine ok_skip (h5 _ ?_)
    have hk : k < x.length := by simpa using c7
    obtain ⟨u, hu⟩ := sget hk
    refine ok_seq fun K8 h8 => ?_
    refine ok_block ?_
    refine ok_last fun K9 h9 => ok_region rfl (q_mo _ rfl (q_mv _ rfl (q_mv _ rfl (q_mv _ rfl (q_ia el205 rfl rfl (by omega) (mget hu) (q_lds _ ag261 rfl sz261 (q_call (f262_ok u) cl262 rfl rfl (q_iao el123 rfl rfl rfl (by omega) (by rw [fill_len _ _ _ J]; exact hk) (
      q_ste sz122 rfl rfl (fill_get _ _ _ hk) rfl (.inl ⟨_, rfl⟩) rfl (run_nil (h9 _ (h8 _ ?_))))))))))))
    refine ok_region rfl (q_mv _ rfl (q_add rfl rfl (by omega) (q_as _ rfl (run_nil (⟨k + 1, by omega, hk, ?_⟩)))))
    rw [← fill_set eSample (.agg [.raw (.int .i64 0), .raw (.int .i64 0)]) hu]
    exact le_sub ⟨rfl, rfl, rfl, trivial⟩ ⟨rfl, trivial⟩
  · rw [fill_all _ _ _ (by simpa using c7)]
    obtain ⟨g1, g2, g3⟩ := gd_flatL (rs := x.map eSample) (fun r hr => by obtain ⟨y, _, rfl⟩ := List.mem_map.1 hr; rfl)
    refine ok_exit (h3 _ ?_)
    refine ok_seq fun K9 h9 => ok_region rfl (q_mo _ rfl (q_ao _ rfl (run_nil (h9 _ ?_))))
    refine ok_treed (k := 7) (n := 2) (T := 122) (rs := x.map eSample) (ss := x.map eSample) rfl rfl g1 g2 (fun r hr b hb => (g3 r hr b hb).elim) (fun Z v hZ => ?_)
    exact ok_ret ⟨_, ⟨_, _, rfl, rfl, rfl⟩, .tr Z 2 _ v, fun b hb => (hZ b (zn_tr hb)).elim id fun h => h.elim⟩
theorem f105_n (k : Int) : PFn Tryz.prog 105 [.sl 2 [], int k] (int k) := by
  refine fn_ok' (n := 27) Tryz.func105 rfl rfl rfl (Nat.le_of_ble_eq_true rfl) rfl fun w0 O => ?_
  refine ok_seq fun K1 h1 => ok_region rfl (q_as _ rfl (run_nil (h1 _ ?_)))
  refine ok_seq fun K2 h2 => ?_
  refine ok_seq fun K3 h3 => ok_region rfl (q_as _ rfl (run_nil (h3 _ ?_)))
  refine ok_block ?_
  refine ok_loop (fun (_ : Nat) => ⟨[(0, .sv (.sl 2 [])), (1, .sv (int k)), (5, .sv (int 0))], []⟩) (fun k => True) (fun k => 0) 0 trivial (le_same ⟨rfl, rfl, rfl, trivial⟩) (fun _ J => ?_)
  refine ok_seq fun K4 h4 => ?_
  refine ok_seq fun K5 h5 => ok_region rfl (q_mv _ rfl (q_mv _ rfl (q_len eS123 rfl (q_bin _ _ _ rfl rfl rfl (run_nil (h5 _ ?_))))))
  refine ok_cond rfl (fun c6 => ?_) (fun c6 => ?_)
  · simp at c6
  · refine ok_exit (h2 _ ?_)
    refine ok_seq fun K13 h13 => ok_region rfl (q_mv _ rfl (q_as _ rfl (run_nil (h13 _ ?_))))
    exact ok_ret ⟨_, rfl, rfl⟩
theorem f105_m (l : List Sample) (hs : l.length ≤ 1048576) (k : Nat) (h0 : 1 ≤ k) (hk : k + cL cSample l ≤ 1152921504606846976) : MarkC Tryz.prog 105 (eSampleS l) k (fun k' s' => k' = ((k + cL cSample l : Nat) : Int) ∧ ∃ l', s' = eSampleS l' ∧ HL cSample hSample l' k ∧ cL cSample l' = cL cSample l ∧ l'.length ≤ 1048576) := by
  refine fnm_ok (t := 4) (n := 2) (l := l.map eSample) Tryz.func105 rfl rfl rfl (by decide) (fun hn w v hr => ?_) (fun w0 Z v T rs hlen hpos hgd hap hzn => ?_)
  · have hl0 : l = [] := by simpa using hn
    subst hl0
    exact (hnil_of (f105_n k) w v hr).mono fun e w' ⟨he, hx⟩ => ⟨_, _, he, ⟨rfl, [], rfl, trivial, rfl, by simp⟩, rfl, hx⟩
  · have S : ShG Z eSample rs l := ⟨by simpa using hlen, hap, hzn, fun j r x hr hx => hgd j r _ hr (mget hx)⟩
    refine ok_seq fun K1 h1 => ok_region rfl (q_as _ rfl (run_nil (h1 _ ?_)))
    refine ok_seq fun K2 h2 => ?_
    refine ok_seq fun K3 h3 => ok_region rfl (q_as _ rfl (run_nil (h3 _ ?_)))
    refine ok_block ?_
    refine ok_loop (fun (s : List Sample × List Sample × List SV × Nat) => ⟨[(0, .own 0), (1, .sv (int (s.2.2.2 : Int))), (5, .sv (int (s.1.length : Int)))], [(0, .row 2 T s.2.2.1)]⟩) (fun s => ShG Z eSample s.2.2.1 (s.1 ++ s.2.1) ∧ s.2.2.2 = k + cL cSample s.1 ∧ HL cSample hSample s.1 k ∧ cL cSample s.1 + cL cSample s.2.1 = cL cSample l ∧ s.1.length + s.2.1.length = l.length) (fun s => s.2.1.length) ([], l, rs, k) ⟨S, rfl, trivial, by simp [cL], by simp⟩ (le_sub ⟨rfl, rfl, rfl, trivial⟩ ⟨rfl, trivial⟩) (fun s J => ?_)
    clear S hlen hgd hap hzn
    obtain ⟨d, rest, rs, kk⟩ := s
    obtain ⟨S, j2, j3, j4, j5⟩ := J
    simp only at S j2 j3 j4 j5
    have hll : l.length ≤ 1048576 := hs
    have hsl := S.len
    rw [List.length_append] at hsl
    refine ok_seq fun K4 h4 => ?_
    refine ok_seq fun K5 h5 => ok_region rfl (q_mv _ rfl (q_mo _ rfl (q_leno eS123 rfl rfl (q_bin _ _ _ rfl rfl rfl (run_nil (h5 _ ?_))))))
    refine ok_cond rfl (fun c6 => ?_) (fun c6 => ?_)
    · have hi : d.length < rs.length := by simpa using c6
      obtain ⟨u, rest, rfl⟩ : ∃ u t, rest = u :: t := by cases rest with | nil => simp at hsl; omega | cons u t => exact ⟨u, t, rfl⟩
      obtain ⟨r, hr0, hg⟩ := S.here
      obtain ⟨u0, u1⟩ := u
      obtain rfl := flat_eq (s := eSample ((⟨u0, u1⟩ : Sample))) rfl hg
      have hc : cL cSample ((⟨u0, u1⟩ : Sample) :: rest) = (1 + 1) + cL cSample rest := rfl
      rw [hc] at j4
      rw [List.length_cons] at j5
      refine ok_skip (h4 _ ?_)
      refine ok_seq fun K7 h7 => ?_
      refine ok_block ?_
      refine ok_seq fun K8 h8 => ok_region rfl (q_mo _ rfl (q_mv _ rfl (q_mv _ rfl (q_iao el123 rfl rfl rfl (by omega) (slt hr0) (q_fae fd122_0 rfl (by decide) (q_stef sz3 rfl rfl hr0 (by simp) rfl rfl rfl (run_nil (h8 _ ?_))))))))
      have S1 := S.set (u' := (⟨((kk : Nat) : Int), u1⟩ : Sample)) hr0 (r' := .agg [int (((kk : Nat) : Int)), int u1]) (flat_gd (s := eSample ((⟨((kk : Nat) : Int), u1⟩ : Sample))) rfl) (fun b hb => (flat_zn rfl hb).elim)
      have hr1 := set_self_getG (x := (.agg [int (((kk : Nat) : Int)), int u1] : SV)) hr0
      refine ok_seq fun K9 h9 => ok_region rfl (q_mv _ rfl (q_add rfl rfl (by show -9223372036854775808 ≤ ((kk : Nat) : Int) + 1 ∧ ((kk : Nat) : Int) + 1 ≤ 9223372036854775807; omega) (q_as _ rfl (run_nil (h9 _ ?_)))))
      refine ok_seq fun K10 h10 => ok_region rfl (q_mo _ rfl (q_mv _ rfl (q_mv _ rfl (q_iao el123 rfl rfl rfl (by omega) (slt hr1) (q_fae fd122_1 rfl (by decide) (q_stef sz3 rfl rfl hr1 (by simp) rfl rfl rfl (run_nil (h10 _ ?_))))))))
      have S2 := S1.set (u' := (⟨((kk : Nat) : Int), ((kk + 1 : Nat) : Int)⟩ : Sample)) hr1 (r' := .agg [int (((kk : Nat) : Int)), int (((kk + 1 : Nat) : Int))]) (flat_gd (s := eSample ((⟨((kk : Nat) : Int), ((kk + 1 : Nat) : Int)⟩ : Sample))) rfl) (fun b hb => (flat_zn rfl hb).elim)
      have hr2 := set_self_getG (x := (.agg [int (((kk : Nat) : Int)), int (((kk + 1 : Nat) : Int))] : SV)) hr1
      refine ok_last fun K11 h11 => ok_region rfl (q_mv _ rfl (q_add rfl rfl (by show -9223372036854775808 ≤ ((kk + 1 : Nat) : Int) + 1 ∧ ((kk + 1 : Nat) : Int) + 1 ≤ 9223372036854775807; omega) (q_as _ rfl (run_nil (h11 _ (h7 _ ?_))))))
      have hcU : cSample (⟨((kk : Nat) : Int), ((kk + 1 : Nat) : Int)⟩ : Sample) = 1 + 1 := rfl
      have hLU : cL cSample (d ++ [(⟨((kk : Nat) : Int), ((kk + 1 : Nat) : Int)⟩ : Sample)]) = cL cSample d + (1 + 1) := by rw [cL_snoc, hcU]
      have hHU : HL cSample hSample (d ++ [(⟨((kk : Nat) : Int), ((kk + 1 : Nat) : Int)⟩ : Sample)]) k := HL_snoc j3 (by rw [← j2]; exact ⟨rfl, rfl⟩)
      rw [List.append_cons] at S2
      refine ok_last fun K12 h12 => ok_region rfl (q_mv _ rfl (q_add rfl rfl (by show -9223372036854775808 ≤ ((d.length : Nat) : Int) + 1 ∧ ((d.length : Nat) : Int) + 1 ≤ 9223372036854775807; omega) (q_as _ rfl (run_nil (h12 _ (⟨(d ++ [(⟨((kk : Nat) : Int), ((kk + 1 : Nat) : Int)⟩ : Sample)], rest, _, kk + 1 + 1), by simp, ⟨S2, by show kk + 1 + 1 = _; rw [hLU]; omega, hHU, by show cL cSample (d ++ [(⟨((kk : Nat) : Int), ((kk + 1 : Nat) : Int)⟩ : Sample)]) + cL _ rest = _; rw [hLU]; omega, by show (d ++ [_]).length + rest.length = _; rw [List.length_append, List.length_singleton]; omega⟩, le_sub ⟨rfl, rfl, (congrArg (fun n : Int => some (LV.sv (int n))) (show ((d.length : Nat) : Int) + 1 = ((d ++ [(⟨((kk : Nat) : Int), ((kk + 1 : Nat) : Int)⟩ : Sample)]).length : Nat) from by simp)), trivial⟩ ⟨rfl, trivial⟩⟩))))))
    · have hi : ¬ d.length < rs.length := by simpa using c6
      have hrest : rest = [] := by cases rest with | nil => rfl | cons u t => simp at hsl; omega
      subst hrest
      rw [List.append_nil] at S
      simp only [cL] at j4
      rw [List.length_nil] at j5
      have hkk : kk = k + cL cSample l := by omega
      refine ok_exit (h2 _ ?_)
      refine ok_seq fun K13 h13 => ok_region rfl (q_mv _ rfl (q_as _ rfl (run_nil (h13 _ ?_))))
      exact ok_ret ⟨_, rs, d.map eSample, rfl, rfl, by simpa using S.len, fun j r s hr hs => (by rw [List.getElem?_map] at hs; obtain ⟨x, hx, rfl⟩ := Option.map_eq_some_iff.1 hs; exact S.gd j r x hr hx), S.ap, S.zn, by rw [hkk], d, rfl, j3, by omega, by omega⟩
theorem f107_h (l : List Sample) (hs : l.length ≤ 1048576) (k : Nat) (h0 : 1 ≤ k) (hk : k + cL cSample l ≤ 1152921504606846976) (hh : HL cSample hSample l k) : PFn Tryz.prog 107 [eSampleS l, int k] (int ((k + cL cSample l : Nat) : Int)) := by
  refine fn_ok' (n := 31) Tryz.func107 rfl rfl rfl (Nat.le_of_ble_eq_true rfl) rfl fun w0 O => ?_
  refine ok_seq fun K1 h1 => ok_region rfl (q_as _ rfl (run_nil (h1 _ ?_)))
  refine ok_seq fun K2 h2 => ?_
  refine ok_seq fun K3 h3 => ok_region rfl (q_as _ rfl (run_nil (h3 _ ?_)))
  refine ok_block ?_
  refine ok_loop (fun (s : List Sample × List Sample × Nat) => ⟨[(0, .sv (eSampleS l)), (1, .sv (int (s.2.2 : Int))), (5, .sv (int (s.1.length : Int)))], []⟩) (fun s => l = s.1 ++ s.2.1 ∧ s.2.2 + cL cSample s.2.1 = k + cL cSample l ∧ HL cSample hSample s.2.1 s.2.2 ∧ k ≤ s.2.2) (fun s => s.2.1.length) ([], l, k) ⟨rfl, rfl, hh, Nat.le_refl _⟩ (le_same ⟨rfl, rfl, rfl, trivial⟩) (fun s J => ?_)
  obtain ⟨d, rest, kk⟩ := s
  obtain ⟨j1, j2, j3, j4⟩ := J
  simp only at j1 j2 j3 j4
  have hll : l.length ≤ 1048576 := hs
  have hdl : l.length = d.length + rest.length := by rw [j1, List.length_append]
  refine ok_seq fun K4 h4 => ?_
  refine ok_seq fun K5 h5 => ok_region rfl (q_mv _ rfl (q_mv _ rfl (q_len eS123 rfl (q_bin _ _ _ rfl rfl rfl (run_nil (h5 _ ?_))))))
  rw [List.length_map]
  refine ok_cond rfl (fun c6 => ?_) (fun c6 => ?_)
  · have hi : d.length < l.length := by simpa using c6
    obtain ⟨u, rest, rfl⟩ : ∃ u t, rest = u :: t := by cases rest with | nil => simp at hdl; omega | cons u t => exact ⟨u, t, rfl⟩
    have hu : l[d.length]? = some u := by rw [j1, List.getElem?_append_right (Nat.le_refl _), Nat.sub_self]; rfl
    obtain ⟨u0, u1⟩ := u
    obtain ⟨hE, j3⟩ := j3
    obtain ⟨e0, e1⟩ : u0 = ((kk : Nat) : Int) ∧ u1 = ((kk + 1 : Nat) : Int) := hE
    subst e0
    subst e1
    have hc : cL cSample ((⟨((kk : Nat) : Int), ((kk + 1 : Nat) : Int)⟩ : Sample) :: rest) = (1 + 1) + cL cSample rest := rfl
    rw [hc] at j2
    rw [List.length_cons] at hdl
    refine ok_skip (h4 _ ?_)
    refine ok_seq fun K7 h7 => ?_
    refine ok_block ?_
    refine ok_seq fun K8 h8 => ?_
    refine ok_seq fun K9 h9 => ok_region rfl (q_mv _ rfl (q_mv _ rfl (q_ia el123 rfl rfl (by omega) (mget (f := eSample) hu) (q_fa _ fd122_0 rfl rfl (by decide) (q_ld _ ag3 rfl rfl (q_mv _ rfl (q_bin _ _ _ rfl rfl rfl (run_nil (h9 _ ?_)))))))))
    refine ok_cond rfl (fun c10 => ?_) (fun c10 => ?_)
    · simp at c10
    · refine ok_skip (h8 _ ?_)
      refine ok_seq fun K12 h12 => ok_region rfl (q_mv _ rfl (q_add rfl rfl (by show -9223372036854775808 ≤ ((kk : Nat) : Int) + 1 ∧ ((kk : Nat) : Int) + 1 ≤ 9223372036854775807; omega) (q_as _ rfl (run_nil (h12 _ ?_)))))
      refine ok_seq fun K13 h13 => ?_
      refine ok_seq fun K14 h14 => ok_region rfl (q_mv _ rfl (q_mv _ rfl (q_ia el123 rfl rfl (by omega) (mget (f := eSample) hu) (q_fa _ fd122_1 rfl rfl (by decide) (q_ld _ ag3 rfl rfl (q_mv _ rfl (q_bin _ _ _ rfl rfl rfl (run_nil (h14 _ ?_)))))))))
      refine ok_cond rfl (fun c15 => ?_) (fun c15 => ?_)
      · simp at c15
      · refine ok_skip (h13 _ ?_)
        refine ok_last fun K17 h17 => ok_region rfl (q_mv _ rfl (q_add rfl rfl (by show -9223372036854775808 ≤ ((kk + 1 : Nat) : Int) + 1 ∧ ((kk + 1 : Nat) : Int) + 1 ≤ 9223372036854775807; omega) (q_as _ rfl (run_nil (h17 _ (h7 _ ?_))))))
        refine ok_last fun K18 h18 => ok_region rfl (q_mv _ rfl (q_add rfl rfl (by show -9223372036854775808 ≤ ((d.length : Nat) : Int) + 1 ∧ ((d.length : Nat) : Int) + 1 ≤ 9223372036854775807; omega) (q_as _ rfl (run_nil (h18 _ (⟨(d ++ [(⟨((kk : Nat) : Int), ((kk + 1 : Nat) : Int)⟩ : Sample)], rest, kk + 1 + 1), by simp, ⟨by show l = (d ++ [_]) ++ rest; rw [j1, List.append_cons], by show kk + 1 + 1 + cL cSample rest = _; omega, by have h9 := j3; rw [show kk + cSample (⟨((kk : Nat) : Int), ((kk + 1 : Nat) : Int)⟩ : Sample) = kk + 1 + 1 from by show kk + (1 + 1) = _; omega] at h9; exact h9, by show k ≤ kk + 1 + 1; omega⟩, le_same ⟨rfl, rfl, (congrArg (fun n : Int => some (LV.sv (int n))) (show ((d.length : Nat) : Int) + 1 = ((d ++ [(⟨((kk : Nat) : Int), ((kk + 1 : Nat) : Int)⟩ : Sample)]).length : Nat) from by simp)), trivial⟩⟩))))))
  · have hi : ¬ d.length < l.length := by simpa using c6
    have hrest : rest = [] := by cases rest with | nil => rfl | cons u t => simp at hdl; omega
    subst hrest
    simp only [cL] at j2
    have hkk : kk = k + cL cSample l := by omega
    refine ok_exit (h2 _ ?_)
    refine ok_seq fun K19 h19 => ok_region rfl (q_mv _ rfl (q_as _ rfl (run_nil (h19 _ ?_))))
    subst hkk; exact ok_ret ⟨_, rfl, rfl⟩
theorem kc_SampleS (l : List Sample) : KC (cL cSample l) (zSampleS l) 0 := kc_take _ _ (by rw [cL_const (c := cSample) (m := 2) (fun _ => rfl)]; omega)
theorem gi_Series {x : Series} {r : SV} (h : Gd r (eSeries x)) : ∃ (Z0 : Nat → Prop) (v0 : Value) (Z1 : Nat → Prop) (v1 : Value), r = .agg [.tr Z0 (eLabelS x.labels) v0, .tr Z1 (eSampleS x.samples) v1] ∧ (∀ b, Z0 b → ¬ Z1 b) := by
  obtain ⟨rs, rfl, g, a⟩ := gd_agg_inv h
  obtain ⟨r0, q0, rfl, g0, g⟩ := g.inv_cons
  obtain ⟨r1, q1, rfl, g1, g⟩ := g.inv_cons
  obtain rfl := g.inv_nil
  obtain ⟨Z0, v0, rfl⟩ := gd_sl_inv g0
  obtain ⟨Z1, v1, rfl⟩ := gd_sl_inv g1
  exact ⟨Z0, v0, Z1, v1, rfl, fun b h1 h2 => absurd (a.sep (i := 0) (j := 1) rfl rfl (.tr _ _ _ h1) (.tr _ _ _ h2)) (by decide)⟩
theorem gc_Series (x : Series) {Z0 : Nat → Prop} {v0 : Value} {Z1 : Nat → Prop} {v1 : Value} (d0_1 : ∀ b, Z0 b → ¬ Z1 b) : Gd (.agg [.tr Z0 (eLabelS x.labels) v0, .tr Z1 (eSampleS x.samples) v1]) (eSeries x) := gd_agg ⟨.tr _ _ _ _, .tr _ _ _ _, trivial⟩ (AL_tr (fun b hb hb' => by simp only [znA_cons, znI_raw, znI_tr, znA_nil, or_false, false_or] at hb'; exact d0_1 b hb hb') (AL_tr (fun b hb hb' => by simp only [znA_cons, znI_raw, znI_tr, znA_nil, or_false, false_or] at hb') trivial))
def NSeries (x : Series) : Prop := x.labels.length ≤ 1048576 ∧ x.samples.length ≤ 1048576
theorem nSeries_of {x : Series} (h : SSeries x) : NSeries x := ⟨(h.1).1, h.2⟩
def cSeries (x : Series) : Nat := cL cLabel x.labels + cL cSample x.samples
def hSeries (x : Series) (k : Nat) : Prop := HL cLabel hLabel x.labels (k) ∧ HL cSample hSample x.samples (k + cL cLabel x.labels)
theorem f194_t (x : Series) (hx : SSeries x) : PFnT Tryz.prog 194 [eSeries x] (eSeries x) := by
  refine fnp_ok (n := 13) Tryz.func194 rfl rfl rfl (Nat.le_of_ble_eq_true rfl) rfl fun w0 O => ?_
  refine ok_seq fun K1 h1 => ok_region rfl (q_boxs _ rfl (Nat.zero_lt_succ _) (q_alloc _ ze125 rfl rfl rfl rfl (run_nil (h1 _ ?_))))
  refine ok_seq fun K2 h2 => ok_region rfl (q_alloc _ ze125 rfl rfl rfl rfl (run_nil (h2 _ ?_)))
  refine ok_seq fun K3 h3 => ok_region rfl (q_fa _ fd207_0 rfl rfl (by decide) (q_ld _ ag108 rfl rfl (q_callr (f154_t x.labels (hx.1)) cl154 rfl (fun r0 hr0 hz0 ha0 => ?_))))
  obtain ⟨Z0, v0, rfl⟩ := gd_sl_inv hr0
  refine q_fap fd125_0 rfl (by decide) (q_st _ sz78 rfl rfl (Nat.le_of_ble_eq_true rfl) rfl ⟨_, rfl, rfl⟩ rfl (run_nil (h3 _ ?_)))
  refine ok_seq fun K4 h4 => ok_region rfl (q_fa _ fd207_1 rfl rfl (by decide) (q_ld _ ag205 rfl rfl (q_callr (f238_t x.samples (hx.2)) cl238 rfl (fun r1 hr1 hz1 ha1 => ?_))))
  obtain ⟨Z1, v1, rfl⟩ := gd_sl_inv hr1
  have d0_1 : ∀ b, Z0 b → ¬ Z1 b := fun b h1 h2 => ha1.1 6 _ b rfl (.tr Z0 _ v0 h1) (.tr Z1 _ v1 h2)
  refine q_fap fd125_1 rfl (by decide) (q_st _ sz123 rfl rfl (Nat.le_of_ble_eq_true rfl) rfl ⟨_, rfl, rfl⟩ rfl (run_nil (h4 _ ?_)))
  refine ok_seq fun K5 h5 => ok_region rfl (q_ldbs ag125 rfl rfl sz125 rfl rfl (q_sts _ rfl rfl rfl sz125 (Nat.le_of_ble_eq_true rfl) rfl (run_nil (h5 _ ?_))))
  refine ok_ret ⟨[.agg [.tr Z0 (eLabelS x.labels) v0, .tr Z1 (eSampleS x.samples) v1]], ⟨_, _, res_cells (l := [.tr Z0 (eLabelS x.labels) v0, .tr Z1 (eSampleS x.samples) v1]) rfl rfl ag125 sz125 rfl, rfl, rfl⟩, gc_Series x d0_1, fun b hb => ?_⟩
  have hb : Zn b (.agg [.tr Z0 (eLabelS x.labels) v0, .tr Z1 (eSampleS x.samples) v1]) := hb
  simp only [znA_cons, znI_raw, znI_tr, znA_nil, or_false, false_or] at hb
  rcases hb with h | h
  · exact hz0 b (.tr Z0 _ v0 h)
  · exact hz1 b (.tr Z1 _ v1 h)
theorem kc_Series (x : Series) : KC (cSeries x) (zSeries x) 16 := by
  have h : KC ((cL cLabel x.labels + (cL cSample x.samples))) (zSeries x) 0 := (kc_stp (kc_LabelS x.labels) (kc_SampleS x.samples))
  have e : cSeries x = cL cLabel x.labels + cL cSample x.samples := rfl
  exact h.mono (by rw [e]; omega)
theorem f128_t (x : List Series) (hx : x.length ≤ 1048576 ∧ ∀ y ∈ x, SSeries y) : PFnT Tryz.prog 128 [eSeriesS x] (eSeriesS x) := by
  have hle : x.length ≤ 1048576 := hx.1
  refine fnp_ok (n := 23) Tryz.func128 rfl rfl rfl (Nat.le_of_ble_eq_true rfl) rfl fun w0 O => ?_
  refine ok_seq fun K1 h1 => ok_region rfl (q_as _ rfl (run_nil (h1 _ ?_)))
  refine ok_seq fun K2 h2 => ok_region rfl (q_mv _ rfl (q_len eS159 rfl (q_make _ (.agg [.raw (.slice none 0 0), .raw (.slice none 0 0)]) el63 (by decide) ze125 rfl by125 rfl rfl rfl rfl (.inl ⟨rfl, rfl, rfl⟩) (by rw [List.length_map]; exact Nat.le_trans hle (by decide)) (by rw [List.length_map]; omega) (q_ao _ rfl (run_nil (h2 _ ?_))))))
  rw [List.length_map]
  refine ok_seq fun K3 h3 => ?_
  refine ok_seq fun K4 h4 => ok_region rfl (q_as _ rfl (run_nil (h4 _ ?_)))
  refine ok_block ?_
  refine ok_loop (fun (rs : List SV) => ⟨[(0, .sv (eSeriesS x)), (3, .own 7), (4, .sv (int rs.length))], [(7, .row 2 125 (rs ++ List.replicate (x.length - rs.length) (.agg [.raw (.slice none 0 0), .raw (.slice none 0 0)])))]⟩) (fun rs => rs.length ≤ x.length ∧ Cps w0 rs ((x.take rs.length).map eSeries)) (fun rs => x.length - rs.length) [] ⟨Nat.zero_le _, Cps.nil w0⟩ (le_sub ⟨rfl, rfl, rfl, trivial⟩ ⟨rfl, trivial⟩) (fun rs J => ?_)
  obtain ⟨j1, j2⟩ := J
  refine ok_seq fun K5 h5 => ?_
  refine ok_seq fun K6 h6 => ok_region rfl (q_mv _ rfl (q_mv _ rfl (q_len eS159 rfl (q_bin _ _ _ rfl rfl rfl (run_nil (h6 _ ?_))))))
  rw [List.length_map]
  refine ok_cond rfl (fun c7 => ?_) (fun c7 => ?_)
  · refine ok_skip (h5 _ ?_)
    have hk : rs.length < x.length := by simpa using c7
    obtain ⟨u, hu⟩ := sget hk
    refine ok_seq fun K8 h8 => ?_
    refine ok_block ?_
    refine ok_last fun K9 h9 => ok_region rfl (q_mo _ rfl (q_mv _ rfl (q_mv _ rfl (q_mv _ rfl (q_ia el159 rfl rfl (by omega) (mget (f := eSeries) hu) (q_lds _ ag207 rfl sz207 (q_callr (f194_t u (hx.2 u (smem hu))) cl194 rfl (fun r hr hz hap => ?_))))))))
    have hfresh := j2.snoc hr (fun y hy b hb => hap.2 7 2 125 _ y b rfl (List.mem_append_left _ hy) hb) hz
    rw [show (x.take rs.length).map eSeries ++ [eSeries u] = (x.take (rs ++ [r]).length).map eSeries by rw [List.length_append, List.length_cons, List.length_nil, List.take_add_one, hu, List.map_append]; rfl] at hfresh
    obtain ⟨Z0, v0, Z1, v1, rfl, d0_1⟩ := gi_Series hr
    refine q_iao el63 rfl rfl rfl (by omega) (by simp; omega) (q_ste sz125 rfl rfl (fillR_get hk) rfl (.inl ⟨_, rfl⟩) rfl (run_nil (h9 _ (h8 _ ?_))))
    refine ok_last fun K10 h10 => ok_region rfl (q_mv _ rfl (q_add rfl rfl (by omega) (q_as _ rfl (run_nil (h10 _ (⟨rs ++ [.agg [.tr Z0 (eLabelS u.labels) v0, .tr Z1 (eSampleS u.samples) v1]], by simp only [List.length_append, List.length_cons, List.length_nil]; omega, ⟨by simp only [List.length_append, List.length_cons, List.length_nil]; omega, hfresh⟩, ?_⟩))))))
    rw [← fillR_set hk]
    have e : ((rs ++ [(.agg [.tr Z0 (eLabelS u.labels) v0, .tr Z1 (eSampleS u.samples) v1] : SV)]).length : Int) = (rs.length : Int) + 1 := by simp
    rw [e]
    exact le_sub ⟨rfl, rfl, rfl, trivial⟩ ⟨rfl, trivial⟩
  · have hk : rs.length = x.length := by have : ¬ ((rs.length : Int) < x.length) := by simpa using c7
                                         omega
    have e : rs ++ List.replicate (x.length - rs.length) (.agg [.raw (.slice none 0 0), .raw (.slice none 0 0)]) = rs := by rw [hk, Nat.sub_self]; simp
    rw [hk, List.take_length] at j2
    rw [e]
    refine ok_exit (h3 _ ?_)
    refine ok_seq fun K11 h11 => ok_region rfl (q_mo _ rfl (q_ao _ rfl (run_nil (h11 _ ?_))))
    refine ok_treed (k := 7) (n := 2) (T := 125) (rs := rs) (ss := x.map eSeries) rfl j2.len j2.gd j2.ap (fun r hr b hb => .inl (j2.nw r hr b hb)) (fun Z v hZ => ?_)
    exact ok_ret ⟨_, ⟨_, _, rfl, rfl, rfl⟩, .tr Z 2 _ v, fun b hb => (hZ b (zn_tr hb)).elim id fun h => h.elim⟩
theorem f38_n (k : Int) : PFn Tryz.prog 38 [.sl 2 [], int k] (int k) := by
  refine fn_ok' (n := 27) Tryz.func38 rfl rfl rfl (Nat.le_of_ble_eq_true rfl) rfl fun w0 O => ?_
  refine ok_seq fun K1 h1 => ok_region rfl (q_as _ rfl (run_nil (h1 _ ?_)))
  refine ok_seq fun K2 h2 => ?_
  refine ok_seq fun K3 h3 => ok_region rfl (q_as _ rfl (run_nil (h3 _ ?_)))
  refine ok_block ?_
  refine ok_loop (fun (_ : Nat) => ⟨[(0, .sv (.sl 2 [])), (1, .sv (int k)), (5, .sv (int 0))], []⟩) (fun k => True) (fun k => 0) 0 trivial (le_same ⟨rfl, rfl, rfl, trivial⟩) (fun _ J => ?_)
  refine ok_seq fun K4 h4 => ?_
  refine ok_seq fun K5 h5 => ok_region rfl (q_mv _ rfl (q_mv _ rfl (q_len eS63 rfl (q_bin _ _ _ rfl rfl rfl (run_nil (h5 _ ?_))))))
  refine ok_cond rfl (fun c6 => ?_) (fun c6 => ?_)
  · simp at c6
  · refine ok_exit (h2 _ ?_)
    refine ok_seq fun K11 h11 => ok_region rfl (q_mv _ rfl (q_as _ rfl (run_nil (h11 _ ?_))))
    exact ok_ret ⟨_, rfl, rfl⟩
theorem f38_m (l : List Series) (hs : l.length ≤ 1048576 ∧ ∀ y ∈ l, NSeries y) (k : Nat) (h0 : 1 ≤ k) (hk : k + cL cSeries l ≤ 1152921504606846976) : MarkC Tryz.prog 38 (eSeriesS l) k (fun k' s' => k' = ((k + cL cSeries l : Nat) : Int) ∧ ∃ l', s' = eSeriesS l' ∧ HL cSeries hSeries l' k ∧ cL cSeries l' = cL cSeries l ∧ l'.length ≤ 1048576 ∧ ∀ y ∈ l', NSeries y) := by
  refine fnm_ok (t := 4) (n := 2) (l := l.map eSeries) Tryz.func38 rfl rfl rfl (by decide) (fun hn w v hr => ?_) (fun w0 Z v T rs hlen hpos hgd hap hzn => ?_)
  · have hl0 : l = [] := by simpa using hn
    subst hl0
    exact (hnil_of (f38_n k) w v hr).mono fun e w' ⟨he, hx⟩ => ⟨_, _, he, ⟨rfl, [], rfl, trivial, rfl, ⟨by simp, by simp⟩⟩, rfl, hx⟩
  · have S : ShG Z eSeries rs l := ⟨by simpa using hlen, hap, hzn, fun j r x hr hx => hgd j r _ hr (mget hx)⟩
    refine ok_seq fun K1 h1 => ok_region rfl (q_as _ rfl (run_nil (h1 _ ?_)))
    refine ok_seq fun K2 h2 => ?_
    refine ok_seq fun K3 h3 => ok_region rfl (q_as _ rfl (run_nil (h3 _ ?_)))
    refine ok_block ?_
    refine ok_loop (fun (s : List Series × List Series × List SV × Nat) => ⟨[(0, .own 0), (1, .sv (int (s.2.2.2 : Int))), (5, .sv (int (s.1.length : Int)))], [(0, .row 2 T s.2.2.1)]⟩) (fun s => ShG Z eSeries s.2.2.1 (s.1 ++ s.2.1) ∧ s.2.2.2 = k + cL cSeries s.1 ∧ HL cSeries hSeries s.1 k ∧ cL cSeries s.1 + cL cSeries s.2.1 = cL cSeries l ∧ s.1.length + s.2.1.length = l.length ∧ (∀ z ∈ s.1, NSeries z) ∧ ∀ z ∈ s.2.1, NSeries z) (fun s => s.2.1.length) ([], l, rs, k) ⟨S, rfl, trivial, by simp [cL], by simp, by simp, hs.2⟩ (le_sub ⟨rfl, rfl, rfl, trivial⟩ ⟨rfl, trivial⟩) (fun s J => ?_)
    clear S hlen hgd hap hzn
    obtain ⟨d, rest, rs, kk⟩ := s
    obtain ⟨S, j2, j3, j4, j5, j6, j7⟩ := J
    simp only at S j2 j3 j4 j5 j6 j7
    have hll : l.length ≤ 1048576 := hs.1
    have hsl := S.len
    rw [List.length_append] at hsl
    refine ok_seq fun K4 h4 => ?_
    refine ok_seq fun K5 h5 => ok_region rfl (q_mv _ rfl (q_mo _ rfl (q_leno eS63 rfl rfl (q_bin _ _ _ rfl rfl rfl (run_nil (h5 _ ?_))))))
    refine ok_cond rfl (fun c6 => ?_) (fun c6 => ?_)
    · have hi : d.length < rs.length := by simpa using c6
      obtain ⟨u, rest, rfl⟩ : ∃ u t, rest = u :: t := by cases rest with | nil => simp at hsl; omega | cons u t => exact ⟨u, t, rfl⟩
      obtain ⟨r, hr0, hg⟩ := S.here
      obtain ⟨u0, u1⟩ := u
      obtain ⟨Z0, v0, Z1, v1, rfl, d0_1⟩ := gi_Series hg
      have hc : cL cSeries ((⟨u0, u1⟩ : Series) :: rest) = (cL cLabel u0 + cL cSample u1) + cL cSeries rest := rfl
      rw [hc] at j4
      rw [List.length_cons] at j5
      have hNu := j7 _ (List.mem_cons_self ..)
      obtain ⟨hn0, hn1⟩ : (u0.length ≤ 1048576) ∧ (u1.length ≤ 1048576) := hNu
      refine ok_skip (h4 _ ?_)
      refine ok_seq fun K7 h7 => ?_
      refine ok_block ?_
      refine ok_seq fun K8 h8 => ?_
      refine ok_region rfl (q_mo _ rfl (q_mv _ rfl (q_iao el63 rfl rfl rfl (by omega) (slt hr0) (q_fae fd125_0 rfl (by decide) (q_ldef (.tr Z0 (eLabelS u0) v0) ag78 rfl rfl hr0 rfl (q_mv _ rfl (q_mark (k := ((kk : Nat) : Int)) (f91_m u0 hn0 (kk) (by omega) (by omega)) cl91 rfl rfl (fun b hb => .inr (S.zn _ (smem hr0) b (.agg _ (.tr Z0 (eLabelS u0) v0) (by simp) (.tr Z0 (eLabelS u0) v0 hb)))) (fun _ => mkDT _) (fun s' => [(0, .row 2 T (_))]) (fun s' => mkDT_ok _) (fun s' => ⟨rfl, mk_rowG (r' := .agg [.tr Z0 s' v0, .tr Z1 (eSampleS u1) v1]) S hr0 (fun b hb => (.agg _ (.tr Z0 (eLabelS u0) v0) (by simp) (.tr Z0 (eLabelS u0) v0 hb))) (mk_aggL ⟨.same, .other _ _ _ (fun b hb hb' => d0_1 b hb' hb), trivial⟩), trivial⟩) (fun k' s' hR => ?_))))))))
      obtain ⟨rfl, w0, rfl, hh0, hc0, hm0⟩ := hR
      refine q_as _ rfl (run_nil (h8 _ ?_))
      have S1 := S.set (u' := (⟨w0, u1⟩ : Series)) hr0 (r' := .agg [.tr Z0 (eLabelS w0) v0, .tr Z1 (eSampleS u1) v1]) (gc_Series (⟨w0, u1⟩ : Series) d0_1) (fun b hb => by simp only [znA_cons, znI_raw, znI_tr, znA_nil, or_false, false_or] at hb ⊢; exact hb)
      have hr1 := set_self_getG (x := (.agg [.tr Z0 (eLabelS w0) v0, .tr Z1 (eSampleS u1) v1] : SV)) hr0
      refine ok_last fun K9 h9 => ok_region rfl (q_mo _ rfl (q_mv _ rfl (q_iao el63 rfl rfl rfl (by omega) (slt hr1) (q_fae fd125_1 rfl (by decide) (q_ldef (.tr Z1 (eSampleS u1) v1) ag123 rfl rfl hr1 rfl (q_mv _ rfl (q_mark (k := ((kk + cL cLabel u0 : Nat) : Int)) (f105_m u1 hn1 (kk + cL cLabel u0) (by omega) (by omega)) cl105 rfl rfl (fun b hb => .inr (S1.zn _ (smem hr1) b (.agg _ (.tr Z1 (eSampleS u1) v1) (by simp) (.tr Z1 (eSampleS u1) v1 hb)))) (fun _ => mkDT _) (fun s' => [(0, .row 2 T (_))]) (fun s' => mkDT_ok _) (fun s' => ⟨rfl, mk_rowG (r' := .agg [.tr Z0 (eLabelS w0) v0, .tr Z1 s' v1]) S1 hr1 (fun b hb => (.agg _ (.tr Z1 (eSampleS u1) v1) (by simp) (.tr Z1 (eSampleS u1) v1 hb))) (mk_aggL ⟨.other _ _ _ (d0_1), .same, trivial⟩), trivial⟩) (fun k' s' hR => ?_))))))))
      obtain ⟨rfl, w1, rfl, hh1, hc1, hm1⟩ := hR
      refine q_as _ rfl (run_nil (h9 _ (h7 _ ?_)))
      have S2 := S1.set (u' := (⟨w0, w1⟩ : Series)) hr1 (r' := .agg [.tr Z0 (eLabelS w0) v0, .tr Z1 (eSampleS w1) v1]) (gc_Series (⟨w0, w1⟩ : Series) d0_1) (fun b hb => by simp only [znA_cons, znI_raw, znI_tr, znA_nil, or_false, false_or] at hb ⊢; exact hb)
      have hr2 := set_self_getG (x := (.agg [.tr Z0 (eLabelS w0) v0, .tr Z1 (eSampleS w1) v1] : SV)) hr1
      have hcU : cSeries (⟨w0, w1⟩ : Series) = cL cLabel w0 + cL cSample w1 := rfl
      have hLU : cL cSeries (d ++ [(⟨w0, w1⟩ : Series)]) = cL cSeries d + (cL cLabel w0 + cL cSample w1) := by rw [cL_snoc, hcU]
      have hHU : HL cSeries hSeries (d ++ [(⟨w0, w1⟩ : Series)]) k := HL_snoc j3 (by rw [← j2]; exact ⟨(by show HL cLabel hLabel w0 (kk); exact hh0), (by show HL cSample hSample w1 (kk + cL cLabel w0); rw [hc0]; exact hh1)⟩)
      rw [List.append_cons] at S2
      have hNU : NSeries (⟨w0, w1⟩ : Series) := ⟨hm0, hm1⟩
      refine ok_last fun K10 h10 => ok_region rfl (q_mv _ rfl (q_add rfl rfl (by show -9223372036854775808 ≤ ((d.length : Nat) : Int) + 1 ∧ ((d.length : Nat) : Int) + 1 ≤ 9223372036854775807; omega) (q_as _ rfl (run_nil (h10 _ (⟨(d ++ [(⟨w0, w1⟩ : Series)], rest, _, kk + cL cLabel u0 + cL cSample u1), by simp, ⟨S2, by show kk + cL cLabel u0 + cL cSample u1 = _; rw [hLU]; omega, hHU, by show cL cSeries (d ++ [(⟨w0, w1⟩ : Series)]) + cL _ rest = _; rw [hLU]; omega, by show (d ++ [_]).length + rest.length = _; rw [List.length_append, List.length_singleton]; omega, fun z hz => (List.mem_append.1 hz).elim (j6 z) (fun h => by rw [List.mem_singleton] at h; subst h; exact hNU), fun z hz => j7 z (List.mem_cons_of_mem _ hz)⟩, le_sub ⟨rfl, rfl, (congrArg (fun n : Int => some (LV.sv (int n))) (show ((d.length : Nat) : Int) + 1 = ((d ++ [(⟨w0, w1⟩ : Series)]).length : Nat) from by simp)), trivial⟩ ⟨rfl, trivial⟩⟩))))))
    · have hi : ¬ d.length < rs.length := by simpa using c6
      have hrest : rest = [] := by cases rest with | nil => rfl | cons u t => simp at hsl; omega
      subst hrest
      rw [List.append_nil] at S
      simp only [cL] at j4
      rw [List.length_nil] at j5
      have hkk : kk = k + cL cSeries l := by omega
      refine ok_exit (h2 _ ?_)
      refine ok_seq fun K11 h11 => ok_region rfl (q_mv _ rfl (q_as _ rfl (run_nil (h11 _ ?_))))
      exact ok_ret ⟨_, rs, d.map eSeries, rfl, rfl, by simpa using S.len, fun j r s hr hs => (by rw [List.getElem?_map] at hs; obtain ⟨x, hx, rfl⟩ := Option.map_eq_some_iff.1 hs; exact S.gd j r x hr hx), S.ap, S.zn, by rw [hkk], d, rfl, j3, by omega, ⟨by omega, j6⟩⟩
theorem f39_h (l : List Series) (hs : l.length ≤ 1048576 ∧ ∀ y ∈ l, NSeries y) (k : Nat) (h0 : 1 ≤ k) (hk : k + cL cSeries l ≤ 1152921504606846976) (hh : HL cSeries hSeries l k) : PFn Tryz.prog 39 [eSeriesS l, int k] (int ((k + cL cSeries l : Nat) : Int)) := by
  refine fn_ok' (n := 31) Tryz.func39 rfl rfl rfl (Nat.le_of_ble_eq_true rfl) rfl fun w0 O => ?_
  refine ok_seq fun K1 h1 => ok_region rfl (q_as _ rfl (run_nil (h1 _ ?_)))
  refine ok_seq fun K2 h2 => ?_
  refine ok_seq fun K3 h3 => ok_region rfl (q_as _ rfl (run_nil (h3 _ ?_)))
  refine ok_block ?_
  refine ok_loop (fun (s : List Series × List Series × Nat) => ⟨[(0, .sv (eSeriesS l)), (1, .sv (int (s.2.2 : Int))), (5, .sv (int (s.1.length : Int)))], []⟩) (fun s => l = s.1 ++ s.2.1 ∧ s.2.2 + cL cSeries s.2.1 = k + cL cSeries l ∧ HL cSeries hSeries s.2.1 s.2.2 ∧ k ≤ s.2.2) (fun s => s.2.1.length) ([], l, k) ⟨rfl, rfl, hh, Nat.le_refl _⟩ (le_same ⟨rfl, rfl, rfl, trivial⟩) (fun s J => ?_)
  obtain ⟨d, rest, kk⟩ := s
  obtain ⟨j1, j2, j3, j4⟩ := J
  simp only at j1 j2 j3 j4
  have hll : l.length ≤ 1048576 := hs.1
  have hdl : l.length = d.length + rest.length := by rw [j1, List.length_append]
  refine ok_seq fun K4 h4 => ?_
  refine ok_seq fun K5 h5 => ok_region rfl (q_mv _ rfl (q_mv _ rfl (q_len eS63 rfl (q_bin _ _ _ rfl rfl rfl (run_nil (h5 _ ?_))))))
  rw [List.length_map]
  refine ok_cond rfl (fun c6 => ?_) (fun c6 => ?_)
  · have hi : d.length < l.length := by simpa using c6
    obtain ⟨u, rest, rfl⟩ : ∃ u t, rest = u :: t := by cases rest with | nil => simp at hdl; omega | cons u t => exact ⟨u, t, rfl⟩
    have hu : l[d.length]? = some u := by rw [j1, List.getElem?_append_right (Nat.le_refl _), Nat.sub_self]; rfl
    have hNu := hs.2 u (smem hu)
    obtain ⟨u0, u1⟩ := u
    obtain ⟨hE, j3⟩ := j3
    obtain ⟨e0, e1⟩ : HL cLabel hLabel u0 (kk) ∧ HL cSample hSample u1 (kk + cL cLabel u0) := hE
    have hc : cL cSeries ((⟨u0, u1⟩ : Series) :: rest) = (cL cLabel u0 + cL cSample u1) + cL cSeries rest := rfl
    rw [hc] at j2
    rw [List.length_cons] at hdl
    obtain ⟨hn0, hn1⟩ : (u0.length ≤ 1048576) ∧ (u1.length ≤ 1048576) := hNu
    refine ok_skip (h4 _ ?_)
    refine ok_seq fun K7 h7 => ?_
    refine ok_block ?_
    refine ok_seq fun K8 h8 => ?_
    refine ok_region rfl (q_mv _ rfl (q_mv _ rfl (q_ia el63 rfl rfl (by omega) (mget (f := eSeries) hu) (q_fa _ fd125_0 rfl rfl (by decide) (q_ld _ ag78 rfl rfl (q_mv _ rfl (q_call (f106_h u0 hn0 (kk) (by omega) (by omega) e0) cl106 rfl rfl (q_as _ rfl (run_nil (h8 _ ?_))))))))))
    refine ok_seq fun K9 h9 => ?_
    refine ok_seq fun K10 h10 => ok_region rfl (q_mv _ rfl (q_bin _ _ _ rfl rfl rfl (run_nil (h10 _ ?_))))
    refine ok_cond rfl (fun c11 => ?_) (fun c11 => ?_)
    · have := of_decide_eq_true c11; omega
    · refine ok_skip (h9 _ ?_)
      refine ok_seq fun K13 h13 => ?_
      refine ok_region rfl (q_mv _ rfl (q_mv _ rfl (q_ia el63 rfl rfl (by omega) (mget (f := eSeries) hu) (q_fa _ fd125_1 rfl rfl (by decide) (q_ld _ ag123 rfl rfl (q_mv _ rfl (q_call (f107_h u1 hn1 (kk + cL cLabel u0) (by omega) (by omega) e1) cl107 rfl rfl (q_as _ rfl (run_nil (h13 _ ?_))))))))))
      refine ok_seq fun K14 h14 => ok_region rfl (q_mv _ rfl (q_bin _ _ _ rfl rfl rfl (run_nil (h14 _ ?_))))
      refine ok_cond rfl (fun c15 => ?_) (fun c15 => ?_)
      · have := of_decide_eq_true c15; omega
      · refine ok_skip (h7 _ ?_)
        refine ok_last fun K17 h17 => ok_region rfl (q_mv _ rfl (q_add rfl rfl (by show -9223372036854775808 ≤ ((d.length : Nat) : Int) + 1 ∧ ((d.length : Nat) : Int) + 1 ≤ 9223372036854775807; omega) (q_as _ rfl (run_nil (h17 _ (⟨(d ++ [(⟨u0, u1⟩ : Series)], rest, kk + cL cLabel u0 + cL cSample u1), by simp, ⟨by show l = (d ++ [_]) ++ rest; rw [j1, List.append_cons], by show kk + cL cLabel u0 + cL cSample u1 + cL cSeries rest = _; omega, by have h9 := j3; rw [show kk + cSeries (⟨u0, u1⟩ : Series) = kk + cL cLabel u0 + cL cSample u1 from by show kk + (cL cLabel u0 + cL cSample u1) = _; omega] at h9; exact h9, by show k ≤ kk + cL cLabel u0 + cL cSample u1; omega⟩, le_same ⟨rfl, rfl, (congrArg (fun n : Int => some (LV.sv (int n))) (show ((d.length : Nat) : Int) + 1 = ((d ++ [(⟨u0, u1⟩ : Series)]).length : Nat) from by simp)), trivial⟩⟩))))))
  · have hi : ¬ d.length < l.length := by simpa using c6
    have hrest : rest = [] := by cases rest with | nil => rfl | cons u t => simp at hdl; omega
    subst hrest
    simp only [cL] at j2
    have hkk : kk = k + cL cSeries l := by omega
    refine ok_exit (h2 _ ?_)
    refine ok_seq fun K18 h18 => ok_region rfl (q_mv _ rfl (q_as _ rfl (run_nil (h18 _ ?_))))
    subst hkk; exact ok_ret ⟨_, rfl, rfl⟩
theorem kc_SeriesS (l : List Series) : KC (cL cSeries l) (zSeriesS l) 0 := kc_sl kc_Series l
theorem f55_t (x : List (List Series)) (hx : x.length ≤ 1048576 ∧ ∀ y ∈ x, y.length ≤ 1048576 ∧ ∀ z ∈ y, SSeries z) : PFnT Tryz.prog 55 [eSeriesSS x] (eSeriesSS x) := by
  have hle : x.length ≤ 1048576 := hx.1
  refine fnp_ok (n := 23) Tryz.func55 rfl rfl rfl (Nat.le_of_ble_eq_true rfl) rfl fun w0 O => ?_
  refine ok_seq fun K1 h1 => ok_region rfl (q_as _ rfl (run_nil (h1 _ ?_)))
  refine ok_seq fun K2 h2 => ok_region rfl (q_mv _ rfl (q_len eS25 rfl (q_make _ (.raw (.slice none 0 0)) el32 (by decide) ze63 rfl by63 rfl rfl rfl rfl (.inr ⟨rfl, rfl⟩) (by rw [List.length_map]; exact Nat.le_trans hle (by decide)) (by rw [List.length_map]; omega) (q_ao _ rfl (run_nil (h2 _ ?_))))))
  rw [List.length_map]
  refine ok_seq fun K3 h3 => ?_
  refine ok_seq fun K4 h4 => ok_region rfl (q_as _ rfl (run_nil (h4 _ ?_)))
  refine ok_block ?_
  refine ok_loop (fun (rs : List SV) => ⟨[(0, .sv (eSeriesSS x)), (3, .own 7), (4, .sv (int rs.length))], [(7, .row 1 63 (rs ++ List.replicate (x.length - rs.length) (.raw (.slice none 0 0))))]⟩) (fun rs => rs.length ≤ x.length ∧ Cps w0 rs ((x.take rs.length).map eSeriesS)) (fun rs => x.length - rs.length) [] ⟨Nat.zero_le _, Cps.nil w0⟩ (le_sub ⟨rfl, rfl, rfl, trivial⟩ ⟨rfl, trivial⟩) (fun rs J => ?_)
  obtain ⟨j1, j2⟩ := J
  refine ok_seq fun K5 h5 => ?_
  refine ok_seq fun K6 h6 => ok_region rfl (q_mv _ rfl (q_mv _ rfl (q_len eS25 rfl (q_bin _ _ _ rfl rfl rfl (run_nil (h6 _ ?_))))))
  rw [List.length_map]
  refine ok_cond rfl (fun c7 => ?_) (fun c7 => ?_)
  · refine ok_skip (h5 _ ?_)
    have hk : rs.length < x.length := by simpa using c7
    obtain ⟨u, hu⟩ := sget hk
    refine ok_seq fun K8 h8 => ?_
    refine ok_block ?_
    refine ok_last fun K9 h9 => ok_region rfl (q_mo _ rfl (q_mv _ rfl (q_mv _ rfl (q_mv _ rfl (q_ia el25 rfl rfl (by omega) (mget (f := eSeriesS) hu) (q_ld _ ag159 rfl rfl (q_callr (f128_t u (hx.2 u (smem hu))) cl128 rfl (fun r hr hz hap => ?_))))))))
    have hfresh := j2.snoc hr (fun y hy b hb => hap.2 7 1 63 _ y b rfl (List.mem_append_left _ hy) hb) hz
    rw [show (x.take rs.length).map eSeriesS ++ [eSeriesS u] = (x.take (rs ++ [r]).length).map eSeriesS by rw [List.length_append, List.length_cons, List.length_nil, List.take_add_one, hu, List.map_append]; rfl] at hfresh
    obtain ⟨Z0, v0, rfl⟩ := gd_sl_inv hr
    refine q_iao el32 rfl rfl rfl (by omega) (by simp; omega) (q_ste sz63 rfl rfl (fillR_get hk) rfl (.inr rfl) rfl (run_nil (h9 _ (h8 _ ?_))))
    refine ok_last fun K10 h10 => ok_region rfl (q_mv _ rfl (q_add rfl rfl (by omega) (q_as _ rfl (run_nil (h10 _ (⟨rs ++ [.tr Z0 (eSeriesS u) v0], by simp only [List.length_append, List.length_cons, List.length_nil]; omega, ⟨by simp only [List.length_append, List.length_cons, List.length_nil]; omega, hfresh⟩, ?_⟩))))))
    rw [← fillR_set hk]
    have e : ((rs ++ [(.tr Z0 (eSeriesS u) v0 : SV)]).length : Int) = (rs.length : Int) + 1 := by simp
    rw [e]
    exact le_sub ⟨rfl, rfl, rfl, trivial⟩ ⟨rfl, trivial⟩
  · have hk : rs.length = x.length := by have : ¬ ((rs.length : Int) < x.length) := by simpa using c7
                                         omega
    have e : rs ++ List.replicate (x.length - rs.length) (.raw (.slice none 0 0)) = rs := by rw [hk, Nat.sub_self]; simp
    rw [hk, List.take_length] at j2
    rw [e]
    refine ok_exit (h3 _ ?_)
    refine ok_seq fun K11 h11 => ok_region rfl (q_mo _ rfl (q_ao _ rfl (run_nil (h11 _ ?_))))
    refine ok_treed (k := 7) (n := 1) (T := 63) (rs := rs) (ss := x.map eSeriesS) rfl j2.len j2.gd j2.ap (fun r hr b hb => .inl (j2.nw r hr b hb)) (fun Z v hZ => ?_)
    exact ok_ret ⟨_, ⟨_, _, rfl, rfl, rfl⟩, .tr Z 1 _ v, fun b hb => (hZ b (zn_tr hb)).elim id fun h => h.elim⟩
theorem f62_n (k : Int) : PFn Tryz.prog 62 [.sl 1 [], int k] (int k) := by
  refine fn_ok' (n := 19) Tryz.func62 rfl rfl rfl (Nat.le_of_ble_eq_true rfl) rfl fun w0 O => ?_
  refine ok_seq fun K1 h1 => ok_region rfl (q_as _ rfl (run_nil (h1 _ ?_)))
  refine ok_seq fun K2 h2 => ?_
  refine ok_seq fun K3 h3 => ok_region rfl (q_as _ rfl (run_nil (h3 _ ?_)))
  refine ok_block ?_
  refine ok_loop (fun (_ : Nat) => ⟨[(0, .sv (.sl 1 [])), (1, .sv (int k)), (5, .sv (int 0))], []⟩) (fun k => True) (fun k => 0) 0 trivial (le_same ⟨rfl, rfl, rfl, trivial⟩) (fun _ J => ?_)
  refine ok_seq fun K4 h4 => ?_
  refine ok_seq fun K5 h5 => ok_region rfl (q_mv _ rfl (q_mv _ rfl (q_len eS32 rfl (q_bin _ _ _ rfl rfl rfl (run_nil (h5 _ ?_))))))
  refine ok_cond rfl (fun c6 => ?_) (fun c6 => ?_)
  · simp at c6
  · refine ok_exit (h2 _ ?_)
    refine ok_seq fun K10 h10 => ok_region rfl (q_mv _ rfl (q_as _ rfl (run_nil (h10 _ ?_))))
    exact ok_ret ⟨_, rfl, rfl⟩
theorem f62_m (l : List (List Series)) (hs : l.length ≤ 1048576 ∧ ∀ y ∈ l, y.length ≤ 1048576 ∧ ∀ z ∈ y, NSeries z) (k : Nat) (h0 : 1 ≤ k) (hk : k + cL (cL cSeries) l ≤ 1152921504606846976) : MarkC Tryz.prog 62 (eSeriesSS l) k (fun k' s' => k' = ((k + cL (cL cSeries) l : Nat) : Int) ∧ ∃ l', s' = eSeriesSS l' ∧ HL (cL cSeries) (HL cSeries hSeries) l' k ∧ cL (cL cSeries) l' = cL (cL cSeries) l ∧ l'.length ≤ 1048576 ∧ ∀ y ∈ l', y.length ≤ 1048576 ∧ ∀ z ∈ y, NSeries z) := by
  refine fnm_ok (t := 4) (n := 1) (l := l.map eSeriesS) Tryz.func62 rfl rfl rfl (by decide) (fun hn w v hr => ?_) (fun w0 Z v T rs hlen hpos hgd hap hzn => ?_)
  · have hl0 : l = [] := by simpa using hn
    subst hl0
    exact (hnil_of (f62_n k) w v hr).mono fun e w' ⟨he, hx⟩ => ⟨_, _, he, ⟨rfl, [], rfl, trivial, rfl, ⟨by simp, by simp⟩⟩, rfl, hx⟩
  · have S : ShG Z eSeriesS rs l := ⟨by simpa using hlen, hap, hzn, fun j r x hr hx => hgd j r _ hr (mget hx)⟩
    refine ok_seq fun K1 h1 => ok_region rfl (q_as _ rfl (run_nil (h1 _ ?_)))
    refine ok_seq fun K2 h2 => ?_
    refine ok_seq fun K3 h3 => ok_region rfl (q_as _ rfl (run_nil (h3 _ ?_)))
    refine ok_block ?_
    refine ok_loop (fun (s : List (List Series) × List (List Series) × List SV × Nat) => ⟨[(0, .own 0), (1, .sv (int (s.2.2.2 : Int))), (5, .sv (int (s.1.length : Int)))], [(0, .row 1 T s.2.2.1)]⟩) (fun s => ShG Z eSeriesS s.2.2.1 (s.1 ++ s.2.1) ∧ s.2.2.2 = k + cL (cL cSeries) s.1 ∧ HL (cL cSeries) (HL cSeries hSeries) s.1 k ∧ cL (cL cSeries) s.1 + cL (cL cSeries) s.2.1 = cL (cL cSeries) l ∧ s.1.length + s.2.1.length = l.length ∧ (∀ z ∈ s.1, z.length ≤ 1048576 ∧ ∀ y ∈ z, NSeries y) ∧ ∀ z ∈ s.2.1, z.length ≤ 1048576 ∧ ∀ y ∈ z, NSeries y) (fun s => s.2.1.length) ([], l, rs, k) ⟨S, rfl, trivial, by simp [cL], by simp, by simp, hs.2⟩ (le_sub ⟨rfl, rfl, rfl, trivial⟩ ⟨rfl, trivial⟩) (fun s J => ?_)
    clear S hlen hgd hap hzn
    obtain ⟨d, rest, rs, kk⟩ := s
    obtain ⟨S, j2, j3, j4, j5, j6, j7⟩ := J
    simp only at S j2 j3 j4 j5 j6 j7
    have hll : l.length ≤ 1048576 := hs.1
    have hsl := S.len
    rw [List.length_append] at hsl
    refine ok_seq fun K4 h4 => ?_
    refine ok_seq fun K5 h5 => ok_region rfl (q_mv _ rfl (q_mo _ rfl (q_leno eS32 rfl rfl (q_bin _ _ _ rfl rfl rfl (run_nil (h5 _ ?_))))))
    refine ok_cond rfl (fun c6 => ?_) (fun c6 => ?_)
    · have hi : d.length < rs.length := by simpa using c6
      obtain ⟨u, rest, rfl⟩ : ∃ u t, rest = u :: t := by cases rest with | nil => simp at hsl; omega | cons u t => exact ⟨u, t, rfl⟩
      obtain ⟨r, hr0, hg⟩ := S.here
      obtain ⟨Z0, v0, rfl⟩ := gd_sl_inv hg
      have hc : cL (cL cSeries) ((u : (List Series)) :: rest) = (cL cSeries u) + cL (cL cSeries) rest := rfl
      rw [hc] at j4
      rw [List.length_cons] at j5
      have hNu := j7 _ (List.mem_cons_self ..)
      have hn0 := hNu
      refine ok_skip (h4 _ ?_)
      refine ok_seq fun K7 h7 => ?_
      refine ok_block ?_
      refine ok_last fun K8 h8 => ok_region rfl (q_mo _ rfl (q_mv _ rfl (q_iao el32 rfl rfl rfl (by omega) (slt hr0) (q_lde (.tr Z0 (eSeriesS u) v0) ag63 rfl rfl hr0 rfl (q_mv _ rfl (q_mark (k := ((kk : Nat) : Int)) (f38_m u hn0 (kk) (by omega) (by omega)) cl38 rfl rfl (fun b hb => .inr (S.zn _ (smem hr0) b (.tr _ _ _ hb))) (fun _ => mkDT _) (fun s' => [(0, .row 1 T (_))]) (fun s' => mkDT_ok _) (fun s' => ⟨rfl, mk_rowG (r' := .tr Z0 s' v0) S hr0 (fun b hb => (.tr _ _ _ hb)) .same, trivial⟩) (fun k' s' hR => ?_)))))))
      obtain ⟨rfl, w0, rfl, hh0, hc0, hm0⟩ := hR
      refine q_as _ rfl (run_nil (h8 _ (h7 _ ?_)))
      have S1 := S.set (u' := (w0 : (List Series))) hr0 (r' := .tr Z0 (eSeriesS w0) v0) (.tr _ _ _ _) (fun b hb => .tr _ _ _ (zn_tr hb))
      have hr1 := set_self_getG (x := (.tr Z0 (eSeriesS w0) v0 : SV)) hr0
      have hcU : (cL cSeries) (w0 : (List Series)) = cL cSeries w0 := rfl
      have hLU : cL (cL cSeries) (d ++ [(w0 : (List Series))]) = cL (cL cSeries) d + (cL cSeries w0) := by rw [cL_snoc, hcU]
      have hHU : HL (cL cSeries) (HL cSeries hSeries) (d ++ [(w0 : (List Series))]) k := HL_snoc j3 (by rw [← j2]; exact (by show HL cSeries hSeries w0 (kk); exact hh0))
      rw [List.append_cons] at S1
      have hNU : (w0 : (List Series)).length ≤ 1048576 ∧ ∀ y ∈ (w0 : (List Series)), NSeries y := hm0
      refine ok_last fun K9 h9 => ok_region rfl (q_mv _ rfl (q_add rfl rfl (by show -9223372036854775808 ≤ ((d.length : Nat) : Int) + 1 ∧ ((d.length : Nat) : Int) + 1 ≤ 9223372036854775807; omega) (q_as _ rfl (run_nil (h9 _ (⟨(d ++ [(w0 : (List Series))], rest, _, kk + cL cSeries u), by simp, ⟨S1, by show kk + cL cSeries u = _; rw [hLU]; omega, hHU, by show cL (cL cSeries) (d ++ [(w0 : (List Series))]) + cL _ rest = _; rw [hLU]; omega, by show (d ++ [_]).length + rest.length = _; rw [List.length_append, List.length_singleton]; omega, fun z hz => (List.mem_append.1 hz).elim (j6 z) (fun h => by rw [List.mem_singleton] at h; subst h; exact hNU), fun z hz => j7 z (List.mem_cons_of_mem _ hz)⟩, le_sub ⟨rfl, rfl, (congrArg (fun n : Int => some (LV.sv (int n))) (show ((d.length : Nat) : Int) + 1 = ((d ++ [(w0 : (List Series))]).length : Nat) from by simp)), trivial⟩ ⟨rfl, trivial⟩⟩))))))
    · have hi : ¬ d.length < rs.length := by simpa using c6
      have hrest : rest = [] := by cases rest with | nil => rfl | cons u t => simp at hsl; omega
      subst hrest
      rw [List.append_nil] at S
      simp only [cL] at j4
      rw [List.length_nil] at j5
      have hkk : kk = k + cL (cL cSeries) l := by omega
      refine ok_exit (h2 _ ?_)
      refine ok_seq fun K10 h10 => ok_region rfl (q_mv _ rfl (q_as _ rfl (run_nil (h10 _ ?_))))
      exact ok_ret ⟨_, rs, d.map eSeriesS, rfl, rfl, by simpa using S.len, fun j r s hr hs => (by rw [List.getElem?_map] at hs; obtain ⟨x, hx, rfl⟩ := Option.map_eq_some_iff.1 hs; exact S.gd j r x hr hx), S.ap, S.zn, by rw [hkk], d, rfl, j3, by omega, ⟨by omega, j6⟩⟩
theorem f64_h (l : List (List Series)) (hs : l.length ≤ 1048576 ∧ ∀ y ∈ l, y.length ≤ 1048576 ∧ ∀ z ∈ y, NSeries z) (k : Nat) (h0 : 1 ≤ k) (hk : k + cL (cL cSeries) l ≤ 1152921504606846976) (hh : HL (cL cSeries) (HL cSeries hSeries) l k) : PFn Tryz.prog 64 [eSeriesSS l, int k] (int ((k + cL (cL cSeries) l : Nat) : Int)) := by
  refine fn_ok' (n := 21) Tryz.func64 rfl rfl rfl (Nat.le_of_ble_eq_true rfl) rfl fun w0 O => ?_
  refine ok_seq fun K1 h1 => ok_region rfl (q_as _ rfl (run_nil (h1 _ ?_)))
  refine ok_seq fun K2 h2 => ?_
  refine ok_seq fun K3 h3 => ok_region rfl (q_as _ rfl (run_nil (h3 _ ?_)))
  refine ok_block ?_
  refine ok_loop (fun (s : List (List Series) × List (List Series) × Nat) => ⟨[(0, .sv (eSeriesSS l)), (1, .sv (int (s.2.2 : Int))), (5, .sv (int (s.1.length : Int)))], []⟩) (fun s => l = s.1 ++ s.2.1 ∧ s.2.2 + cL (cL cSeries) s.2.1 = k + cL (cL cSeries) l ∧ HL (cL cSeries) (HL cSeries hSeries) s.2.1 s.2.2 ∧ k ≤ s.2.2) (fun s => s.2.1.length) ([], l, k) ⟨rfl, rfl, hh, Nat.le_refl _⟩ (le_same ⟨rfl, rfl, rfl, trivial⟩) (fun s J => ?_)
  obtain ⟨d, rest, kk⟩ := s
  obtain ⟨j1, j2, j3, j4⟩ := J
  simp only at j1 j2 j3 j4
  have hll : l.length ≤ 1048576 := hs.1
  have hdl : l.length = d.length + rest.length := by rw [j1, List.length_append]
  refine ok_seq fun K4 h4 => ?_
  refine ok_seq fun K5 h5 => ok_region rfl (q_mv _ rfl (q_mv _ rfl (q_len eS32 rfl (q_bin _ _ _ rfl rfl rfl (run_nil (h5 _ ?_))))))
  rw [List.length_map]
  refine ok_cond rfl (fun c6 => ?_) (fun c6 => ?_)
  · have hi : d.length < l.length := by simpa using c6
    obtain ⟨u, rest, rfl⟩ : ∃ u t, rest = u :: t := by cases rest with | nil => simp at hdl; omega | cons u t => exact ⟨u, t, rfl⟩
    have hu : l[d.length]? = some u := by rw [j1, List.getElem?_append_right (Nat.le_refl _), Nat.sub_self]; rfl
    have hNu := hs.2 u (smem hu)
    obtain ⟨hE, j3⟩ := j3
    have e0 : HL cSeries hSeries u (kk) := hE
    have hc : cL (cL cSeries) ((u : (List Series)) :: rest) = (cL cSeries u) + cL (cL cSeries) rest := rfl
    rw [hc] at j2
    rw [List.length_cons] at hdl
    have hn0 := hNu
    refine ok_skip (h4 _ ?_)
    refine ok_seq fun K7 h7 => ?_
    refine ok_block ?_
    refine ok_seq fun K8 h8 => ok_region rfl (q_mv _ rfl (q_mv _ rfl (q_ia el32 rfl rfl (by omega) (mget (f := eSeriesS) hu) (q_ld _ ag63 rfl rfl (q_mv _ rfl (q_call (f39_h u hn0 (kk) (by omega) (by omega) e0) cl39 rfl rfl (q_as _ rfl (run_nil (h8 _ ?_)))))))))
    refine ok_seq fun K9 h9 => ok_region rfl (q_mv _ rfl (q_bin _ _ _ rfl rfl rfl (run_nil (h9 _ ?_))))
    refine ok_cond rfl (fun c10 => ?_) (fun c10 => ?_)
    · have := of_decide_eq_true c10; omega
    · refine ok_skip (h7 _ ?_)
      refine ok_last fun K12 h12 => ok_region rfl (q_mv _ rfl (q_add rfl rfl (by show -9223372036854775808 ≤ ((d.length : Nat) : Int) + 1 ∧ ((d.length : Nat) : Int) + 1 ≤ 9223372036854775807; omega) (q_as _ rfl (run_nil (h12 _ (⟨(d ++ [(u : (List Series))], rest, kk + cL cSeries u), by simp, ⟨by show l = (d ++ [_]) ++ rest; rw [j1, List.append_cons], by show kk + cL cSeries u + cL (cL cSeries) rest = _; omega, by have h9 := j3; rw [show kk + (cL cSeries) (u : (List Series)) = kk + cL cSeries u from by show kk + (cL cSeries u) = _; omega] at h9; exact h9, by show k ≤ kk + cL cSeries u; omega⟩, le_same ⟨rfl, rfl, (congrArg (fun n : Int => some (LV.sv (int n))) (show ((d.length : Nat) : Int) + 1 = ((d ++ [(u : (List Series))]).length : Nat) from by simp)), trivial⟩⟩))))))
  · have hi : ¬ d.length < l.length := by simpa using c6
    have hrest : rest = [] := by cases rest with | nil => rfl | cons u t => simp at hdl; omega
    subst hrest
    simp only [cL] at j2
    have hkk : kk = k + cL (cL cSeries) l := by omega
    refine ok_exit (h2 _ ?_)
    refine ok_seq fun K13 h13 => ok_region rfl (q_mv _ rfl (q_as _ rfl (run_nil (h13 _ ?_))))
    subst hkk; exact ok_ret ⟨_, rfl, rfl⟩
theorem kc_SeriesSS (l : List (List Series)) : KC (cL (cL cSeries) l) (zSeriesSS l) 0 := kc_sl (fun x => (kc_SeriesS x).mono (by omega)) l
end Go.Ring
