/- Copies told apart, marks, what holds them: by program. No condition. -/
import Derived.Test.YtbhkjbfphhfecaaGreatU0
import Derived.Test.YtbhkjbfphhfecaaGreatV0
set_option maxRecDepth 100000
set_option linter.unusedVariables false
set_option linter.unusedSimpArgs false
namespace Go.Ring
open Go Go.RowKit Go.Eager Go.Abs Go.Proofs
def cLabel (x : Label) : Nat := 1 + 1
def hLabel (x : Label) (k : Nat) : Prop := x.name = markT (k) ∧ x.value = markT (k + 1)
theorem kc_Label (x : Label) : KC (cLabel x) (zLabel x) 16 := by
  have h : KC ((0 + (0))) (zLabel x) 0 := (kc_stp (kc_take0 x.name.size) (kc_take0 x.value.size))
  have e : cLabel x = 1 + 1 := rfl
  exact h.mono (by rw [e]; omega)
theorem f176_t (x : List Label) (hx : x.length ≤ 1048576 ∧ ∀ y ∈ x, SLabel y) : PFnT Tryz.prog 176 [eLabelS x] (eLabelS x) := by
  have hle : x.length ≤ 1048576 := hx.1
  refine fnp_ok (n := 23) Tryz.func176 rfl rfl rfl (Nat.le_of_ble_eq_true rfl) rfl fun w0 O => ?_
  refine ok_seq fun K1 h1 => ok_region rfl (q_as _ rfl (run_nil (h1 _ ?_))); clear h1 K1
  refine ok_seq fun K2 h2 => ok_region rfl (q_mv _ rfl (q_len eS132 rfl (q_make _ _ el80 (by decide) ze101 rfl by101 rfl rfl rfl rfl (.inl ⟨rfl, rfl, rfl⟩) (by rw [List.length_map]; exact Nat.le_trans hle (by decide)) (by rw [List.length_map]; omega) (q_ao _ rfl (run_nil (h2 _ ?_)))))); clear h2 K2
  rw [List.length_map]
  refine ok_seq fun K3 h3 => ?_
  refine ok_seq fun K4 h4 => ok_region rfl (q_as _ rfl (run_nil (h4 _ ?_))); clear h4 K4
  refine ok_block ?_
  refine ok_loop (fun (k : Nat) => ⟨[(0, .sv (eLabelS x)), (3, .own 7), (4, .sv (int k))], [(7, .row 2 101 (fill eLabel (.agg [.raw (.string ⟨#[]⟩), .raw (.string ⟨#[]⟩)]) x k))]⟩) (fun k => k ≤ x.length) (fun k => x.length - k) 0 (Nat.zero_le _) (by rw [fill_zero]; exact le_sub ⟨rfl, rfl, rfl, trivial⟩ ⟨rfl, trivial⟩) (fun k J => ?_)
  refine ok_seq fun K5 h5 => ?_
  refine ok_seq fun K6 h6 => ok_region rfl (q_mv _ rfl (q_mv _ rfl (q_len eS132 rfl (q_bin _ _ _ rfl rfl rfl (run_nil (h6 _ ?_)))))); clear h6 K6
  rw [List.length_map]
  refine ok_cond rfl (fun c7 => ?_) (fun c7 => ?_)
  · refine ok_skip (h5 _ ?_)
    have hk : k < x.length := by simpa using c7
    obtain ⟨u, hu⟩ := sget hk
    refine ok_seq fun K8 h8 => ?_
    refine ok_block ?_
    refine ok_last fun K9 h9 => ok_region rfl (q_mo _ rfl (q_mv _ rfl (q_mv _ rfl (q_mv _ rfl (q_ia el132 rfl rfl (by omega) (mget hu) (q_lds _ ag214 rfl sz214 (q_call (f214_ok u (hx.2 u (smem hu))) cl214 rfl rfl (q_iao el80 rfl rfl rfl (by omega) (by rw [fill_len _ _ _ J]; exact hk) (
      q_ste sz101 rfl rfl (fill_get _ _ _ hk) rfl (.inl ⟨_, rfl⟩) rfl (run_nil (h9 _ (h8 _ ?_))))))))))))
    refine ok_region rfl (q_mv _ rfl (q_add rfl rfl (by omega) (q_as _ rfl (run_nil (⟨k + 1, by omega, hk, ?_⟩)))))
    rw [← fill_set eLabel (.agg [.raw (.string ⟨#[]⟩), .raw (.string ⟨#[]⟩)]) hu]
    exact le_sub ⟨rfl, rfl, rfl, trivial⟩ ⟨rfl, trivial⟩
  · rw [fill_all _ _ _ (by simpa using c7)]
    obtain ⟨g1, g2, g3⟩ := gd_flatL (rs := x.map eLabel) (fun r hr => by obtain ⟨y, _, rfl⟩ := List.mem_map.1 hr; rfl)
    refine ok_exit (h3 _ ?_)
    refine ok_seq fun K9 h9 => ok_region rfl (q_mo _ rfl (q_ao _ rfl (run_nil (h9 _ ?_)))); clear h9 K9
    refine ok_treed (k := 7) (n := 2) (T := 101) (rs := x.map eLabel) (ss := x.map eLabel) rfl rfl g1 g2 (fun r hr b hb => (g3 r hr b hb).elim) (fun Z v hZ => ?_)
    exact ok_ret ⟨_, ⟨_, _, rfl, rfl, rfl⟩, .tr Z 2 _ v, fun b hb => (hZ b (zn_tr hb)).elim id fun h => h.elim⟩
theorem f72_n (k : Int) : PFn Tryz.prog 72 [.sl 2 [], int k] (int k) := by
  refine fn_ok' (n := 29) Tryz.func72 rfl rfl rfl (Nat.le_of_ble_eq_true rfl) rfl fun w0 O => ?_
  refine ok_seq fun K1 h1 => ok_region rfl (q_as _ rfl (run_nil (h1 _ ?_))); clear h1 K1
  refine ok_seq fun K2 h2 => ?_
  refine ok_seq fun K3 h3 => ok_region rfl (q_as _ rfl (run_nil (h3 _ ?_))); clear h3 K3
  refine ok_block ?_
  refine ok_loop (fun (_ : Nat) => ⟨[(0, .sv (.sl 2 [])), (1, .sv (int k)), (5, .sv (int 0))], []⟩) (fun k => True) (fun k => 0) 0 trivial (le_same ⟨rfl, rfl, rfl, trivial⟩) (fun _ J => ?_)
  refine ok_seq fun K4 h4 => ?_
  refine ok_seq fun K5 h5 => ok_region rfl (q_mv _ rfl (q_mv _ rfl (q_len eS80 rfl (q_bin _ _ _ rfl rfl rfl (run_nil (h5 _ ?_)))))); clear h5 K5
  refine ok_cond rfl (fun c6 => ?_) (fun c6 => ?_)
  · simp at c6
  · refine ok_exit (h2 _ ?_)
    refine ok_seq fun K13 h13 => ok_region rfl (q_mv _ rfl (q_as _ rfl (run_nil (h13 _ ?_)))); clear h13 K13
    exact ok_ret ⟨_, rfl, rfl⟩
theorem f72_m (l : List Label) (hs : l.length ≤ 1048576) (k : Nat) (h0 : 1 ≤ k) (hk : k + cL cLabel l ≤ 1152921504606846976) : MarkC Tryz.prog 72 (eLabelS l) k (fun k' s' => k' = ((k + cL cLabel l : Nat) : Int) ∧ ∃ l', s' = eLabelS l' ∧ HL cLabel hLabel l' k ∧ cL cLabel l' = cL cLabel l ∧ l'.length ≤ 1048576) := by
  refine fnm_ok (t := 4) (n := 2) (l := l.map eLabel) Tryz.func72 rfl rfl rfl (by decide) (fun hn w v hr => ?_) (fun w0 Z v T rs hlen hpos hgd hap hzn => ?_)
  · have hl0 : l = [] := by simpa using hn
    subst hl0
    exact (hnil_of (f72_n k) w v hr).mono fun e w' ⟨he, hx⟩ => ⟨_, _, he, ⟨rfl, [], rfl, trivial, rfl, by simp⟩, rfl, hx⟩
  · have S : ShG Z eLabel rs l := ⟨by simpa using hlen, hap, hzn, fun j r x hr hx => hgd j r _ hr (mget hx)⟩
    refine ok_seq fun K1 h1 => ok_region rfl (q_as _ rfl (run_nil (h1 _ ?_))); clear h1 K1
    refine ok_seq fun K2 h2 => ?_
    refine ok_seq fun K3 h3 => ok_region rfl (q_as _ rfl (run_nil (h3 _ ?_))); clear h3 K3
    refine ok_block ?_
    refine ok_loop (fun (s : List Label × List Label × List SV × Nat) => ⟨[(0, .own 0), (1, .sv (int (s.2.2.2 : Int))), (5, .sv (int (s.1.length : Int)))], [(0, .row 2 T s.2.2.1)]⟩) (fun s => ShG Z eLabel s.2.2.1 (s.1 ++ s.2.1) ∧ s.2.2.2 = k + cL cLabel s.1 ∧ HL cLabel hLabel s.1 k ∧ cL cLabel s.1 + cL cLabel s.2.1 = cL cLabel l ∧ s.1.length + s.2.1.length = l.length) (fun s => s.2.1.length) ([], l, rs, k) ⟨S, rfl, trivial, by simp [cL], by simp⟩ (le_sub ⟨rfl, rfl, rfl, trivial⟩ ⟨rfl, trivial⟩) (fun s J => ?_)
    clear S hlen hgd hap hzn
    obtain ⟨d, rest, rs, kk⟩ := s
    obtain ⟨S, j2, j3, j4, j5⟩ := J
    simp only at S j2 j3 j4 j5
    have hll : l.length ≤ 1048576 := hs
    have hsl := S.len
    rw [List.length_append] at hsl
    refine ok_seq fun K4 h4 => ?_
    refine ok_seq fun K5 h5 => ok_region rfl (q_mv _ rfl (q_mo _ rfl (q_leno eS80 rfl rfl (q_bin _ _ _ rfl rfl rfl (run_nil (h5 _ ?_)))))); clear h5 K5
    refine ok_cond rfl (fun c6 => ?_) (fun c6 => ?_)
    · have hi : d.length < rs.length := by simpa using c6
      obtain ⟨u, rest, rfl⟩ : ∃ u t, rest = u :: t := by cases rest with | nil => simp at hsl; omega | cons u t => exact ⟨u, t, rfl⟩
      obtain ⟨r, hr0, hg⟩ := S.here
      obtain ⟨u0, u1⟩ := u
      obtain rfl := flat_eq (s := eLabel ((⟨u0, u1⟩ : Label))) rfl hg
      have hc : cL cLabel ((⟨u0, u1⟩ : Label) :: rest) = (1 + 1) + cL cLabel rest := rfl
      rw [hc] at j4
      rw [List.length_cons] at j5
      refine ok_skip (h4 _ ?_)
      refine ok_seq fun K7 h7 => ?_
      refine ok_block ?_
      refine ok_seq fun K8 h8 => ok_region rfl (q_mo _ rfl (q_mv _ rfl (q_mv _ rfl (q_call (f67_ok (kk) (by omega) (by omega)) cl67 rfl rfl (q_iao el80 rfl rfl rfl (by omega) (slt hr0) (q_fae fd101_0 rfl (by decide) (q_stef sz9 rfl rfl hr0 (by simp) rfl rfl rfl (run_nil (h8 _ ?_))))))))); clear h8 K8
      have S1 := S.set (u' := (⟨markT (kk), u1⟩ : Label)) hr0 (r' := .agg [str (markT (kk)), str u1]) (flat_gd (s := eLabel ((⟨markT (kk), u1⟩ : Label))) rfl) (fun b hb => (flat_zn rfl hb).elim)
      have hr1 := set_self_getG (x := (.agg [str (markT (kk)), str u1] : SV)) hr0
      refine ok_seq fun K9 h9 => ok_region rfl (q_mv _ rfl (q_add rfl rfl (by show -9223372036854775808 ≤ ((kk : Nat) : Int) + 1 ∧ ((kk : Nat) : Int) + 1 ≤ 9223372036854775807; omega) (q_as _ rfl (run_nil (h9 _ ?_))))); clear h9 K9
      refine ok_seq fun K10 h10 => ok_region rfl (q_mo _ rfl (q_mv _ rfl (q_mv _ rfl (q_call (f67_ok (kk + 1) (by omega) (by omega)) cl67 rfl rfl (q_iao el80 rfl rfl rfl (by omega) (slt hr1) (q_fae fd101_1 rfl (by decide) (q_stef sz9 rfl rfl hr1 (by simp) rfl rfl rfl (run_nil (h10 _ ?_))))))))); clear h10 K10
      have S2 := S1.set (u' := (⟨markT (kk), markT (kk + 1)⟩ : Label)) hr1 (r' := .agg [str (markT (kk)), str (markT (kk + 1))]) (flat_gd (s := eLabel ((⟨markT (kk), markT (kk + 1)⟩ : Label))) rfl) (fun b hb => (flat_zn rfl hb).elim)
      have hr2 := set_self_getG (x := (.agg [str (markT (kk)), str (markT (kk + 1))] : SV)) hr1
      refine ok_last fun K11 h11 => ok_region rfl (q_mv _ rfl (q_add rfl rfl (by show -9223372036854775808 ≤ ((kk + 1 : Nat) : Int) + 1 ∧ ((kk + 1 : Nat) : Int) + 1 ≤ 9223372036854775807; omega) (q_as _ rfl (run_nil (h11 _ (h7 _ ?_))))))
      have hcU : cLabel (⟨markT (kk), markT (kk + 1)⟩ : Label) = 1 + 1 := rfl
      have hLU : cL cLabel (d ++ [(⟨markT (kk), markT (kk + 1)⟩ : Label)]) = cL cLabel d + (1 + 1) := by rw [cL_snoc, hcU]
      have hHU : HL cLabel hLabel (d ++ [(⟨markT (kk), markT (kk + 1)⟩ : Label)]) k := HL_snoc j3 (by rw [← j2]; exact ⟨rfl, rfl⟩)
      rw [List.append_cons] at S2
      refine ok_last fun K12 h12 => ok_region rfl (q_mv _ rfl (q_add rfl rfl (by show -9223372036854775808 ≤ ((d.length : Nat) : Int) + 1 ∧ ((d.length : Nat) : Int) + 1 ≤ 9223372036854775807; omega) (q_as _ rfl (run_nil (h12 _ (⟨(d ++ [(⟨markT (kk), markT (kk + 1)⟩ : Label)], rest, _, kk + 1 + 1), by simp, ⟨S2, by show kk + 1 + 1 = _; rw [hLU]; omega, hHU, by show cL cLabel (d ++ [(⟨markT (kk), markT (kk + 1)⟩ : Label)]) + cL _ rest = _; rw [hLU]; omega, by show (d ++ [_]).length + rest.length = _; rw [List.length_append, List.length_singleton]; omega⟩, le_sub ⟨rfl, rfl, (congrArg (fun n : Int => some (LV.sv (int n))) (show ((d.length : Nat) : Int) + 1 = ((d ++ [(⟨markT (kk), markT (kk + 1)⟩ : Label)]).length : Nat) from by simp)), trivial⟩ ⟨rfl, trivial⟩⟩))))))
    · have hi : ¬ d.length < rs.length := by simpa using c6
      have hrest : rest = [] := by cases rest with | nil => rfl | cons u t => simp at hsl; omega
      subst hrest
      rw [List.append_nil] at S
      simp only [cL] at j4
      rw [List.length_nil] at j5
      have hkk : kk = k + cL cLabel l := by omega
      refine ok_exit (h2 _ ?_)
      refine ok_seq fun K13 h13 => ok_region rfl (q_mv _ rfl (q_as _ rfl (run_nil (h13 _ ?_)))); clear h13 K13
      exact ok_ret ⟨_, rs, d.map eLabel, rfl, rfl, by simpa using S.len, fun j r s hr hs => (by rw [List.getElem?_map] at hs; obtain ⟨x, hx, rfl⟩ := Option.map_eq_some_iff.1 hs; exact S.gd j r x hr hx), S.ap, S.zn, by rw [hkk], d, rfl, j3, by omega, by omega⟩
theorem f74_h (l : List Label) (hs : l.length ≤ 1048576) (k : Nat) (h0 : 1 ≤ k) (hk : k + cL cLabel l ≤ 1152921504606846976) (hh : HL cLabel hLabel l k) : PFn Tryz.prog 74 [eLabelS l, int k] (int ((k + cL cLabel l : Nat) : Int)) := by
  refine fn_ok' (n := 33) Tryz.func74 rfl rfl rfl (Nat.le_of_ble_eq_true rfl) rfl fun w0 O => ?_
  refine ok_seq fun K1 h1 => ok_region rfl (q_as _ rfl (run_nil (h1 _ ?_))); clear h1 K1
  refine ok_seq fun K2 h2 => ?_
  refine ok_seq fun K3 h3 => ok_region rfl (q_as _ rfl (run_nil (h3 _ ?_))); clear h3 K3
  refine ok_block ?_
  refine ok_loop (fun (s : List Label × List Label × Nat) => ⟨[(0, .sv (eLabelS l)), (1, .sv (int (s.2.2 : Int))), (5, .sv (int (s.1.length : Int)))], []⟩) (fun s => l = s.1 ++ s.2.1 ∧ s.2.2 + cL cLabel s.2.1 = k + cL cLabel l ∧ HL cLabel hLabel s.2.1 s.2.2 ∧ k ≤ s.2.2) (fun s => s.2.1.length) ([], l, k) ⟨rfl, rfl, hh, Nat.le_refl _⟩ (le_same ⟨rfl, rfl, rfl, trivial⟩) (fun s J => ?_)
  obtain ⟨d, rest, kk⟩ := s
  obtain ⟨j1, j2, j3, j4⟩ := J
  simp only at j1 j2 j3 j4
  have hll : l.length ≤ 1048576 := hs
  have hdl : l.length = d.length + rest.length := by rw [j1, List.length_append]
  refine ok_seq fun K4 h4 => ?_
  refine ok_seq fun K5 h5 => ok_region rfl (q_mv _ rfl (q_mv _ rfl (q_len eS80 rfl (q_bin _ _ _ rfl rfl rfl (run_nil (h5 _ ?_)))))); clear h5 K5
  rw [List.length_map]
  refine ok_cond rfl (fun c6 => ?_) (fun c6 => ?_)
  · have hi : d.length < l.length := by simpa using c6
    obtain ⟨u, rest, rfl⟩ : ∃ u t, rest = u :: t := by cases rest with | nil => simp at hdl; omega | cons u t => exact ⟨u, t, rfl⟩
    have hu : l[d.length]? = some u := by rw [j1, List.getElem?_append_right (Nat.le_refl _), Nat.sub_self]; rfl
    obtain ⟨u0, u1⟩ := u
    obtain ⟨hE, j3⟩ := j3
    obtain ⟨e0, e1⟩ : u0 = markT (kk) ∧ u1 = markT (kk + 1) := hE
    subst e0
    subst e1
    have hc : cL cLabel ((⟨markT (kk), markT (kk + 1)⟩ : Label) :: rest) = (1 + 1) + cL cLabel rest := rfl
    rw [hc] at j2
    rw [List.length_cons] at hdl
    refine ok_skip (h4 _ ?_)
    refine ok_seq fun K7 h7 => ?_
    refine ok_block ?_
    refine ok_seq fun K8 h8 => ?_
    refine ok_seq fun K9 h9 => ?_
    refine ok_region_i (by kernel_rfl) (by kernel_rfl) rfl (q_mv _ rfl (q_mv _ rfl (q_ia el80 rfl rfl (by omega) (mget (f := eLabel) hu) (q_fa _ fd101_0 rfl rfl (by decide) (q_ld _ ag9 rfl rfl (q_mv _ rfl (q_call (f67_ok (kk) (by omega) (by omega)) cl67 rfl rfl (q_bin _ _ _ rfl rfl rfl (run_nil (h9 _ ?_))))))))))
    clear h9 K9
    refine ok_cond rfl (fun c10 => ?_) (fun c10 => ?_)
    · simp at c10
    · refine ok_skip (h8 _ ?_)
      refine ok_seq fun K12 h12 => ok_region rfl (q_mv _ rfl (q_add rfl rfl (by show -9223372036854775808 ≤ ((kk : Nat) : Int) + 1 ∧ ((kk : Nat) : Int) + 1 ≤ 9223372036854775807; omega) (q_as _ rfl (run_nil (h12 _ ?_))))); clear h12 K12
      refine ok_seq fun K13 h13 => ?_
      refine ok_seq fun K14 h14 => ?_
      refine ok_region_i (by kernel_rfl) (by kernel_rfl) rfl (q_mv _ rfl (q_mv _ rfl (q_ia el80 rfl rfl (by omega) (mget (f := eLabel) hu) (q_fa _ fd101_1 rfl rfl (by decide) (q_ld _ ag9 rfl rfl (q_mv _ rfl (q_call (f67_ok (kk + 1) (by omega) (by omega)) cl67 rfl rfl (q_bin _ _ _ rfl rfl rfl (run_nil (h14 _ ?_))))))))))
      clear h14 K14
      refine ok_cond rfl (fun c15 => ?_) (fun c15 => ?_)
      · simp at c15
      · refine ok_skip (h13 _ ?_)
        refine ok_last fun K17 h17 => ok_region rfl (q_mv _ rfl (q_add rfl rfl (by show -9223372036854775808 ≤ ((kk + 1 : Nat) : Int) + 1 ∧ ((kk + 1 : Nat) : Int) + 1 ≤ 9223372036854775807; omega) (q_as _ rfl (run_nil (h17 _ (h7 _ ?_))))))
        refine ok_last fun K18 h18 => ok_region rfl (q_mv _ rfl (q_add rfl rfl (by show -9223372036854775808 ≤ ((d.length : Nat) : Int) + 1 ∧ ((d.length : Nat) : Int) + 1 ≤ 9223372036854775807; omega) (q_as _ rfl (run_nil (h18 _ (⟨(d ++ [(⟨markT (kk), markT (kk + 1)⟩ : Label)], rest, kk + 1 + 1), by simp, ⟨by show l = (d ++ [_]) ++ rest; rw [j1, List.append_cons], by show kk + 1 + 1 + cL cLabel rest = _; omega, by have h9 := j3; rw [show kk + cLabel (⟨markT (kk), markT (kk + 1)⟩ : Label) = kk + 1 + 1 from by show kk + (1 + 1) = _; omega] at h9; exact h9, by show k ≤ kk + 1 + 1; omega⟩, le_same ⟨rfl, rfl, (congrArg (fun n : Int => some (LV.sv (int n))) (show ((d.length : Nat) : Int) + 1 = ((d ++ [(⟨markT (kk), markT (kk + 1)⟩ : Label)]).length : Nat) from by simp)), trivial⟩⟩))))))
  · have hi : ¬ d.length < l.length := by simpa using c6
    have hrest : rest = [] := by cases rest with | nil => rfl | cons u t => simp at hdl; omega
    subst hrest
    simp only [cL] at j2
    have hkk : kk = k + cL cLabel l := by omega
    refine ok_exit (h2 _ ?_)
    refine ok_seq fun K19 h19 => ok_region rfl (q_mv _ rfl (q_as _ rfl (run_nil (h19 _ ?_)))); clear h19 K19
    subst hkk; exact ok_ret ⟨_, rfl, rfl⟩
theorem kc_LabelS (l : List Label) : KC (cL cLabel l) (zLabelS l) 0 := kc_sl kc_Label l
def cSample (x : Sample) : Nat := 1 + 1
def hSample (x : Sample) (k : Nat) : Prop := x.time = ((k : Nat) : Int) ∧ x.value = ((k + 1 : Nat) : Int)
theorem f177_t (x : List Sample) (hx : x.length ≤ 1048576) : PFnT Tryz.prog 177 [eSampleS x] (eSampleS x) := by
  have hle : x.length ≤ 1048576 := hx
  refine fnp_ok (n := 23) Tryz.func177 rfl rfl rfl (Nat.le_of_ble_eq_true rfl) rfl fun w0 O => ?_
  refine ok_seq fun K1 h1 => ok_region rfl (q_as _ rfl (run_nil (h1 _ ?_))); clear h1 K1
  refine ok_seq fun K2 h2 => ok_region rfl (q_mv _ rfl (q_len eS133 rfl (q_make _ _ el81 (by decide) ze128 rfl by128 rfl rfl rfl rfl (.inl ⟨rfl, rfl, rfl⟩) (by rw [List.length_map]; exact Nat.le_trans hle (by decide)) (by rw [List.length_map]; omega) (q_ao _ rfl (run_nil (h2 _ ?_)))))); clear h2 K2
  rw [List.length_map]
  refine ok_seq fun K3 h3 => ?_
  refine ok_seq fun K4 h4 => ok_region rfl (q_as _ rfl (run_nil (h4 _ ?_))); clear h4 K4
  refine ok_block ?_
  refine ok_loop (fun (k : Nat) => ⟨[(0, .sv (eSampleS x)), (3, .own 7), (4, .sv (int k))], [(7, .row 2 128 (fill eSample (.agg [.raw (.int .i64 0), .raw (.int .i64 0)]) x k))]⟩) (fun k => k ≤ x.length) (fun k => x.length - k) 0 (Nat.zero_le _) (by rw [fill_zero]; exact le_sub ⟨rfl, rfl, rfl, trivial⟩ ⟨rfl, trivial⟩) (fun k J => ?_)
  refine ok_seq fun K5 h5 => ?_
  refine ok_seq fun K6 h6 => ok_region rfl (q_mv _ rfl (q_mv _ rfl (q_len eS133 rfl (q_bin _ _ _ rfl rfl rfl (run_nil (h6 _ ?_)))))); clear h6 K6
  rw [List.length_map]
  refine ok_cond rfl (fun c7 => ?_) (fun c7 => ?_)
  · refine ok_skip (h5 _ ?_)
    have hk : k < x.length := by simpa using c7
    obtain ⟨u, hu⟩ := sget hk
    refine ok_seq fun K8 h8 => ?_
    refine ok_block ?_
    refine ok_last fun K9 h9 => ok_region rfl (q_mo _ rfl (q_mv _ rfl (q_mv _ rfl (q_mv _ rfl (q_ia el133 rfl rfl (by omega) (mget hu) (q_lds _ ag219 rfl sz219 (q_call (f215_ok u) cl215 rfl rfl (q_iao el81 rfl rfl rfl (by omega) (by rw [fill_len _ _ _ J]; exact hk) (
      q_ste sz128 rfl rfl (fill_get _ _ _ hk) rfl (.inl ⟨_, rfl⟩) rfl (run_nil (h9 _ (h8 _ ?_))))))))))))
    refine ok_region rfl (q_mv _ rfl (q_add rfl rfl (by omega) (q_as _ rfl (run_nil (⟨k + 1, by omega, hk, ?_⟩)))))
    rw [← fill_set eSample (.agg [.raw (.int .i64 0), .raw (.int .i64 0)]) hu]
    exact le_sub ⟨rfl, rfl, rfl, trivial⟩ ⟨rfl, trivial⟩
  · rw [fill_all _ _ _ (by simpa using c7)]
    obtain ⟨g1, g2, g3⟩ := gd_flatL (rs := x.map eSample) (fun r hr => by obtain ⟨y, _, rfl⟩ := List.mem_map.1 hr; rfl)
    refine ok_exit (h3 _ ?_)
    refine ok_seq fun K9 h9 => ok_region rfl (q_mo _ rfl (q_ao _ rfl (run_nil (h9 _ ?_)))); clear h9 K9
    refine ok_treed (k := 7) (n := 2) (T := 128) (rs := x.map eSample) (ss := x.map eSample) rfl rfl g1 g2 (fun r hr b hb => (g3 r hr b hb).elim) (fun Z v hZ => ?_)
    exact ok_ret ⟨_, ⟨_, _, rfl, rfl, rfl⟩, .tr Z 2 _ v, fun b hb => (hZ b (zn_tr hb)).elim id fun h => h.elim⟩
theorem f73_n (k : Int) : PFn Tryz.prog 73 [.sl 2 [], int k] (int k) := by
  refine fn_ok' (n := 27) Tryz.func73 rfl rfl rfl (Nat.le_of_ble_eq_true rfl) rfl fun w0 O => ?_
  refine ok_seq fun K1 h1 => ok_region rfl (q_as _ rfl (run_nil (h1 _ ?_))); clear h1 K1
  refine ok_seq fun K2 h2 => ?_
  refine ok_seq fun K3 h3 => ok_region rfl (q_as _ rfl (run_nil (h3 _ ?_))); clear h3 K3
  refine ok_block ?_
  refine ok_loop (fun (_ : Nat) => ⟨[(0, .sv (.sl 2 [])), (1, .sv (int k)), (5, .sv (int 0))], []⟩) (fun k => True) (fun k => 0) 0 trivial (le_same ⟨rfl, rfl, rfl, trivial⟩) (fun _ J => ?_)
  refine ok_seq fun K4 h4 => ?_
  refine ok_seq fun K5 h5 => ok_region rfl (q_mv _ rfl (q_mv _ rfl (q_len eS81 rfl (q_bin _ _ _ rfl rfl rfl (run_nil (h5 _ ?_)))))); clear h5 K5
  refine ok_cond rfl (fun c6 => ?_) (fun c6 => ?_)
  · simp at c6
  · refine ok_exit (h2 _ ?_)
    refine ok_seq fun K13 h13 => ok_region rfl (q_mv _ rfl (q_as _ rfl (run_nil (h13 _ ?_)))); clear h13 K13
    exact ok_ret ⟨_, rfl, rfl⟩
theorem f73_m (l : List Sample) (hs : l.length ≤ 1048576) (k : Nat) (h0 : 1 ≤ k) (hk : k + cL cSample l ≤ 1152921504606846976) : MarkC Tryz.prog 73 (eSampleS l) k (fun k' s' => k' = ((k + cL cSample l : Nat) : Int) ∧ ∃ l', s' = eSampleS l' ∧ HL cSample hSample l' k ∧ cL cSample l' = cL cSample l ∧ l'.length ≤ 1048576) := by
  refine fnm_ok (t := 4) (n := 2) (l := l.map eSample) Tryz.func73 rfl rfl rfl (by decide) (fun hn w v hr => ?_) (fun w0 Z v T rs hlen hpos hgd hap hzn => ?_)
  · have hl0 : l = [] := by simpa using hn
    subst hl0
    exact (hnil_of (f73_n k) w v hr).mono fun e w' ⟨he, hx⟩ => ⟨_, _, he, ⟨rfl, [], rfl, trivial, rfl, by simp⟩, rfl, hx⟩
  · have S : ShG Z eSample rs l := ⟨by simpa using hlen, hap, hzn, fun j r x hr hx => hgd j r _ hr (mget hx)⟩
    refine ok_seq fun K1 h1 => ok_region rfl (q_as _ rfl (run_nil (h1 _ ?_))); clear h1 K1
    refine ok_seq fun K2 h2 => ?_
    refine ok_seq fun K3 h3 => ok_region rfl (q_as _ rfl (run_nil (h3 _ ?_))); clear h3 K3
    refine ok_block ?_
    refine ok_loop (fun (s : List Sample × List Sample × List SV × Nat) => ⟨[(0, .own 0), (1, .sv (int (s.2.2.2 : Int))), (5, .sv (int (s.1.length : Int)))], [(0, .row 2 T s.2.2.1)]⟩) (fun s => ShG Z eSample s.2.2.1 (s.1 ++ s.2.1) ∧ s.2.2.2 = k + cL cSample s.1 ∧ HL cSample hSample s.1 k ∧ cL cSample s.1 + cL cSample s.2.1 = cL cSample l ∧ s.1.length + s.2.1.length = l.length) (fun s => s.2.1.length) ([], l, rs, k) ⟨S, rfl, trivial, by simp [cL], by simp⟩ (le_sub ⟨rfl, rfl, rfl, trivial⟩ ⟨rfl, trivial⟩) (fun s J => ?_)
    clear S hlen hgd hap hzn
    obtain ⟨d, rest, rs, kk⟩ := s
    obtain ⟨S, j2, j3, j4, j5⟩ := J
    simp only at S j2 j3 j4 j5
    have hll : l.length ≤ 1048576 := hs
    have hsl := S.len
    rw [List.length_append] at hsl
    refine ok_seq fun K4 h4 => ?_
    refine ok_seq fun K5 h5 => ok_region rfl (q_mv _ rfl (q_mo _ rfl (q_leno eS81 rfl rfl (q_bin _ _ _ rfl rfl rfl (run_nil (h5 _ ?_)))))); clear h5 K5
    refine ok_cond rfl (fun c6 => ?_) (fun c6 => ?_)
    · have hi : d.length < rs.length := by simpa using c6
      obtain ⟨u, rest, rfl⟩ : ∃ u t, rest = u :: t := by cases rest with | nil => simp at hsl; omega | cons u t => exact ⟨u, t, rfl⟩
      obtain ⟨r, hr0, hg⟩ := S.here
      obtain ⟨u0, u1⟩ := u
      obtain rfl := flat_eq (s := eSample ((⟨u0, u1⟩ : Sample))) rfl hg
      have hc : cL cSample ((⟨u0, u1⟩ : Sample) :: rest) = (1 + 1) + cL cSample rest := rfl
      rw [hc] at j4
      rw [List.length_cons] at j5
      refine ok_skip (h4 _ ?_)
      refine ok_seq fun K7 h7 => ?_
      refine ok_block ?_
      refine ok_seq fun K8 h8 => ok_region rfl (q_mo _ rfl (q_mv _ rfl (q_mv _ rfl (q_iao el81 rfl rfl rfl (by omega) (slt hr0) (q_fae fd128_0 rfl (by decide) (q_stef sz3 rfl rfl hr0 (by simp) rfl rfl rfl (run_nil (h8 _ ?_)))))))); clear h8 K8
      have S1 := S.set (u' := (⟨((kk : Nat) : Int), u1⟩ : Sample)) hr0 (r' := .agg [int (((kk : Nat) : Int)), int u1]) (flat_gd (s := eSample ((⟨((kk : Nat) : Int), u1⟩ : Sample))) rfl) (fun b hb => (flat_zn rfl hb).elim)
      have hr1 := set_self_getG (x := (.agg [int (((kk : Nat) : Int)), int u1] : SV)) hr0
      refine ok_seq fun K9 h9 => ok_region rfl (q_mv _ rfl (q_add rfl rfl (by show -9223372036854775808 ≤ ((kk : Nat) : Int) + 1 ∧ ((kk : Nat) : Int) + 1 ≤ 9223372036854775807; omega) (q_as _ rfl (run_nil (h9 _ ?_))))); clear h9 K9
      refine ok_seq fun K10 h10 => ok_region rfl (q_mo _ rfl (q_mv _ rfl (q_mv _ rfl (q_iao el81 rfl rfl rfl (by omega) (slt hr1) (q_fae fd128_1 rfl (by decide) (q_stef sz3 rfl rfl hr1 (by simp) rfl rfl rfl (run_nil (h10 _ ?_)))))))); clear h10 K10
      have S2 := S1.set (u' := (⟨((kk : Nat) : Int), ((kk + 1 : Nat) : Int)⟩ : Sample)) hr1 (r' := .agg [int (((kk : Nat) : Int)), int (((kk + 1 : Nat) : Int))]) (flat_gd (s := eSample ((⟨((kk : Nat) : Int), ((kk + 1 : Nat) : Int)⟩ : Sample))) rfl) (fun b hb => (flat_zn rfl hb).elim)
      have hr2 := set_self_getG (x := (.agg [int (((kk : Nat) : Int)), int (((kk + 1 : Nat) : Int))] : SV)) hr1
      refine ok_last fun K11 h11 => ok_region rfl (q_mv _ rfl (q_add rfl rfl (by show -9223372036854775808 ≤ ((kk + 1 : Nat) : Int) + 1 ∧ ((kk + 1 : Nat) : Int) + 1 ≤ 9223372036854775807; omega) (q_as _ rfl (run_nil (h11 _ (h7 _ ?_))))))
      have hcU : cSample (⟨((kk : Nat) : Int), ((kk + 1 : Nat) : Int)⟩ : Sample) = 1 + 1 := rfl
      have hLU : cL cSample (d ++ [(⟨((kk : Nat) : Int), ((kk + 1 : Nat) : Int)⟩ : Sample)]) = cL cSample d + (1 + 1) := by rw [cL_snoc, hcU]
      have hHU : HL cSample hSample (d ++ [(⟨((kk : Nat) : Int), ((kk + 1 : Nat) : Int)⟩ : Sample)]) k := HL_snoc j3 (by rw [← j2]; exact ⟨rfl, rfl⟩)
      rw [List.append_cons] at S2
      refine ok_last fun K12 h12 => ok_region rfl (q_mv _ rfl (q_add rfl rfl (by show -9223372036854775808 ≤ ((d.length : Nat) : Int) + 1 ∧ ((d.length : Nat) : Int) + 1 ≤ 9223372036854775807; omega) (q_as _ rfl (run_nil (h12 _ (⟨(d ++ [(⟨((kk : Nat) : Int), ((kk + 1 : Nat) : Int)⟩ : Sample)], rest, _, kk + 1 + 1), by simp, ⟨S2, by show kk + 1 + 1 = _; rw [hLU]; omega, hHU, by show cL cSample (d ++ [(⟨((kk : Nat) : Int), ((kk + 1 : Nat) : Int)⟩ : Sample)]) + cL _ rest = _; rw [hLU]; omega, by show (d ++ [_]).length + rest.length = _; rw [List.length_append, List.length_singleton]; omega⟩, le_sub ⟨rfl, rfl, (congrArg (fun n : Int => some (LV.sv (int n))) (show ((d.length : Nat) : Int) + 1 = ((d ++ [(⟨((kk : Nat) : Int), ((kk + 1 : Nat) : Int)⟩ : Sample)]).length : Nat) from by simp)), trivial⟩ ⟨rfl, trivial⟩⟩))))))
    · have hi : ¬ d.length < rs.length := by simpa using c6
      have hrest : rest = [] := by cases rest with | nil => rfl | cons u t => simp at hsl; omega
      subst hrest
      rw [List.append_nil] at S
      simp only [cL] at j4
      rw [List.length_nil] at j5
      have hkk : kk = k + cL cSample l := by omega
      refine ok_exit (h2 _ ?_)
      refine ok_seq fun K13 h13 => ok_region rfl (q_mv _ rfl (q_as _ rfl (run_nil (h13 _ ?_)))); clear h13 K13
      exact ok_ret ⟨_, rs, d.map eSample, rfl, rfl, by simpa using S.len, fun j r s hr hs => (by rw [List.getElem?_map] at hs; obtain ⟨x, hx, rfl⟩ := Option.map_eq_some_iff.1 hs; exact S.gd j r x hr hx), S.ap, S.zn, by rw [hkk], d, rfl, j3, by omega, by omega⟩
theorem f75_h (l : List Sample) (hs : l.length ≤ 1048576) (k : Nat) (h0 : 1 ≤ k) (hk : k + cL cSample l ≤ 1152921504606846976) (hh : HL cSample hSample l k) : PFn Tryz.prog 75 [eSampleS l, int k] (int ((k + cL cSample l : Nat) : Int)) := by
  refine fn_ok' (n := 31) Tryz.func75 rfl rfl rfl (Nat.le_of_ble_eq_true rfl) rfl fun w0 O => ?_
  refine ok_seq fun K1 h1 => ok_region rfl (q_as _ rfl (run_nil (h1 _ ?_))); clear h1 K1
  refine ok_seq fun K2 h2 => ?_
  refine ok_seq fun K3 h3 => ok_region rfl (q_as _ rfl (run_nil (h3 _ ?_))); clear h3 K3
  refine ok_block ?_
  refine ok_loop (fun (s : List Sample × List Sample × Nat) => ⟨[(0, .sv (eSampleS l)), (1, .sv (int (s.2.2 : Int))), (5, .sv (int (s.1.length : Int)))], []⟩) (fun s => l = s.1 ++ s.2.1 ∧ s.2.2 + cL cSample s.2.1 = k + cL cSample l ∧ HL cSample hSample s.2.1 s.2.2 ∧ k ≤ s.2.2) (fun s => s.2.1.length) ([], l, k) ⟨rfl, rfl, hh, Nat.le_refl _⟩ (le_same ⟨rfl, rfl, rfl, trivial⟩) (fun s J => ?_)
  obtain ⟨d, rest, kk⟩ := s
  obtain ⟨j1, j2, j3, j4⟩ := J
  simp only at j1 j2 j3 j4
  have hll : l.length ≤ 1048576 := hs
  have hdl : l.length = d.length + rest.length := by rw [j1, List.length_append]
  refine ok_seq fun K4 h4 => ?_
  refine ok_seq fun K5 h5 => ok_region rfl (q_mv _ rfl (q_mv _ rfl (q_len eS81 rfl (q_bin _ _ _ rfl rfl rfl (run_nil (h5 _ ?_)))))); clear h5 K5
  rw [List.length_map]
  refine ok_cond rfl (fun c6 => ?_) (fun c6 => ?_)
  · have hi : d.length < l.length := by simpa using c6
    obtain ⟨u, rest, rfl⟩ : ∃ u t, rest = u :: t := by cases rest with | nil => simp at hdl; omega | cons u t => exact ⟨u, t, rfl⟩
    have hu : l[d.length]? = some u := by rw [j1, List.getElem?_append_right (Nat.le_refl _), Nat.sub_self]; rfl
    obtain ⟨u0, u1⟩ := u
    obtain ⟨hE, j3⟩ := j3
    obtain ⟨e0, e1⟩ : u0 = ((kk : Nat) : Int) ∧ u1 = ((kk + 1 : Nat) : Int) := hE
    subst e0
    subst e1
    have hc : cL cSample ((⟨((kk : Nat) : Int), ((kk + 1 : Nat) : Int)⟩ : Sample) :: rest) = (1 + 1) + cL cSample rest := rfl
    rw [hc] at j2
    rw [List.length_cons] at hdl
    refine ok_skip (h4 _ ?_)
    refine ok_seq fun K7 h7 => ?_
    refine ok_block ?_
    refine ok_seq fun K8 h8 => ?_
    refine ok_seq fun K9 h9 => ok_region rfl (q_mv _ rfl (q_mv _ rfl (q_ia el81 rfl rfl (by omega) (mget (f := eSample) hu) (q_fa _ fd128_0 rfl rfl (by decide) (q_ld _ ag3 rfl rfl (q_mv _ rfl (q_bin _ _ _ rfl rfl rfl (run_nil (h9 _ ?_))))))))); clear h9 K9
    refine ok_cond rfl (fun c10 => ?_) (fun c10 => ?_)
    · simp at c10
    · refine ok_skip (h8 _ ?_)
      refine ok_seq fun K12 h12 => ok_region rfl (q_mv _ rfl (q_add rfl rfl (by show -9223372036854775808 ≤ ((kk : Nat) : Int) + 1 ∧ ((kk : Nat) : Int) + 1 ≤ 9223372036854775807; omega) (q_as _ rfl (run_nil (h12 _ ?_))))); clear h12 K12
      refine ok_seq fun K13 h13 => ?_
      refine ok_seq fun K14 h14 => ok_region rfl (q_mv _ rfl (q_mv _ rfl (q_ia el81 rfl rfl (by omega) (mget (f := eSample) hu) (q_fa _ fd128_1 rfl rfl (by decide) (q_ld _ ag3 rfl rfl (q_mv _ rfl (q_bin _ _ _ rfl rfl rfl (run_nil (h14 _ ?_))))))))); clear h14 K14
      refine ok_cond rfl (fun c15 => ?_) (fun c15 => ?_)
      · simp at c15
      · refine ok_skip (h13 _ ?_)
        refine ok_last fun K17 h17 => ok_region rfl (q_mv _ rfl (q_add rfl rfl (by show -9223372036854775808 ≤ ((kk + 1 : Nat) : Int) + 1 ∧ ((kk + 1 : Nat) : Int) + 1 ≤ 9223372036854775807; omega) (q_as _ rfl (run_nil (h17 _ (h7 _ ?_))))))
        refine ok_last fun K18 h18 => ok_region rfl (q_mv _ rfl (q_add rfl rfl (by show -9223372036854775808 ≤ ((d.length : Nat) : Int) + 1 ∧ ((d.length : Nat) : Int) + 1 ≤ 9223372036854775807; omega) (q_as _ rfl (run_nil (h18 _ (⟨(d ++ [(⟨((kk : Nat) : Int), ((kk + 1 : Nat) : Int)⟩ : Sample)], rest, kk + 1 + 1), by simp, ⟨by show l = (d ++ [_]) ++ rest; rw [j1, List.append_cons], by show kk + 1 + 1 + cL cSample rest = _; omega, by have h9 := j3; rw [show kk + cSample (⟨((kk : Nat) : Int), ((kk + 1 : Nat) : Int)⟩ : Sample) = kk + 1 + 1 from by show kk + (1 + 1) = _; omega] at h9; exact h9, by show k ≤ kk + 1 + 1; omega⟩, le_same ⟨rfl, rfl, (congrArg (fun n : Int => some (LV.sv (int n))) (show ((d.length : Nat) : Int) + 1 = ((d ++ [(⟨((kk : Nat) : Int), ((kk + 1 : Nat) : Int)⟩ : Sample)]).length : Nat) from by simp)), trivial⟩⟩))))))
  · have hi : ¬ d.length < l.length := by simpa using c6
    have hrest : rest = [] := by cases rest with | nil => rfl | cons u t => simp at hdl; omega
    subst hrest
    simp only [cL] at j2
    have hkk : kk = k + cL cSample l := by omega
    refine ok_exit (h2 _ ?_)
    refine ok_seq fun K19 h19 => ok_region rfl (q_mv _ rfl (q_as _ rfl (run_nil (h19 _ ?_)))); clear h19 K19
    subst hkk; exact ok_ret ⟨_, rfl, rfl⟩
theorem kc_SampleS (l : List Sample) : KC (cL cSample l) (zSampleS l) 0 := kc_take _ _ (by rw [cL_const (c := cSample) (m := 2) (fun _ => rfl)]; omega)
theorem gi_Series {x : Series} {r : SV} (h : Gd r (eSeries x)) : ∃ (Z0 : Nat → Prop) (v0 : Value) (Z1 : Nat → Prop) (v1 : Value), r = .agg [.tr Z0 (eLabelS x.labels) v0, .tr Z1 (eSampleS x.samples) v1] ∧ (∀ b, Z0 b → ¬ Z1 b) := by
  obtain ⟨rs, rfl, g, a⟩ := gd_agg_inv h
  obtain ⟨r0, q0, rfl, g0, g⟩ := g.inv_cons
  obtain ⟨r1, q1, rfl, g1, g⟩ := g.inv_cons
  obtain rfl := g.inv_nil
  obtain ⟨Z0, v0, rfl⟩ := gd_sl_inv g0
  obtain ⟨Z1, v1, rfl⟩ := gd_sl_inv g1
  exact ⟨Z0, v0, Z1, v1, rfl, fun b h1 h2 => absurd (a.sep (i := 0) (j := 1) rfl rfl (.tr _ _ _ h1) (.tr _ _ _ h2)) (by decide)⟩
theorem gc_Series (x : Series) {Z0 : Nat → Prop} {v0 : Value} {Z1 : Nat → Prop} {v1 : Value} (d0_1 : ∀ b, Z0 b → ¬ Z1 b) : Gd (.agg [.tr Z0 (eLabelS x.labels) v0, .tr Z1 (eSampleS x.samples) v1]) (eSeries x) := gd_agg ⟨.tr _ _ _ _, .tr _ _ _ _, trivial⟩ (AL_tr (fun b hb hb' => by simp only [znA_cons, znI_raw, znI_tr, znA_nil, or_false, false_or] at hb'; exact d0_1 b hb hb') (AL_tr (fun b hb hb' => by simp only [znA_cons, znI_raw, znI_tr, znA_nil, or_false, false_or] at hb') trivial))
def NSeries (x : Series) : Prop := x.labels.length ≤ 1048576 ∧ x.samples.length ≤ 1048576
theorem nSeries_of {x : Series} (h : SSeries x) : NSeries x := ⟨(h.1).1, h.2⟩
def cSeries (x : Series) : Nat := cL cLabel x.labels + cL cSample x.samples
def hSeries (x : Series) (k : Nat) : Prop := HL cLabel hLabel x.labels (k) ∧ HL cSample hSample x.samples (k + cL cLabel x.labels)
theorem f120_t (x : Series) (hx : SSeries x) : PFnT Tryz.prog 120 [eSeries x] (eSeries x) := by
  refine fnp_ok (n := 13) Tryz.func120 rfl rfl rfl (Nat.le_of_ble_eq_true rfl) rfl fun w0 O => ?_
  refine ok_seq fun K1 h1 => ok_region rfl (q_boxs _ rfl (Nat.zero_lt_succ _) (q_alloc _ ze83 rfl rfl rfl rfl (run_nil (h1 _ ?_)))); clear h1 K1
  refine ok_seq fun K2 h2 => ok_region rfl (q_alloc _ ze83 rfl rfl rfl rfl (run_nil (h2 _ ?_))); clear h2 K2
  refine ok_seq fun K3 h3 => ok_region rfl (q_fa _ fd135_0 rfl rfl (by decide) (q_ld _ ag132 rfl rfl (q_callr (f176_t x.labels (hx.1)) cl176 rfl (fun r0 hr0 hz0 ha0 => ?_))))
  obtain ⟨Z0, v0, rfl⟩ := gd_sl_inv hr0
  refine q_fap fd83_0 rfl (by decide) (q_st _ sz80 rfl rfl (Nat.le_of_ble_eq_true rfl) rfl ⟨_, rfl, rfl⟩ rfl (run_nil (h3 _ ?_)))
  clear h3 K3
  refine ok_seq fun K4 h4 => ok_region rfl (q_fa _ fd135_1 rfl rfl (by decide) (q_ld _ ag133 rfl rfl (q_callr (f177_t x.samples (hx.2)) cl177 rfl (fun r1 hr1 hz1 ha1 => ?_))))
  obtain ⟨Z1, v1, rfl⟩ := gd_sl_inv hr1
  have d0_1 : ∀ b, Z0 b → ¬ Z1 b := fun b h1 h2 => ha1.1 6 _ b rfl (.tr Z0 _ v0 h1) (.tr Z1 _ v1 h2)
  refine q_fap fd83_1 rfl (by decide) (q_st _ sz81 rfl rfl (Nat.le_of_ble_eq_true rfl) rfl ⟨_, rfl, rfl⟩ rfl (run_nil (h4 _ ?_)))
  clear h4 K4
  refine ok_seq fun K5 h5 => ok_region rfl (q_ldbs ag83 rfl rfl sz83 rfl rfl (q_sts _ rfl rfl rfl sz83 (Nat.le_of_ble_eq_true rfl) rfl (run_nil (h5 _ ?_)))); clear h5 K5
  refine ok_ret ⟨[.agg [.tr Z0 (eLabelS x.labels) v0, .tr Z1 (eSampleS x.samples) v1]], ⟨_, _, res_cells (l := [.tr Z0 (eLabelS x.labels) v0, .tr Z1 (eSampleS x.samples) v1]) rfl rfl ag83 sz83 rfl, rfl, rfl⟩, gc_Series x d0_1, fun b hb => ?_⟩
  have hb : Zn b (.agg [.tr Z0 (eLabelS x.labels) v0, .tr Z1 (eSampleS x.samples) v1]) := hb
  simp only [znA_cons, znI_raw, znI_tr, znA_nil, or_false, false_or] at hb
  rcases hb with h | h
  · exact hz0 b (.tr Z0 _ v0 h)
  · exact hz1 b (.tr Z1 _ v1 h)
theorem kc_Series (x : Series) : KC (cSeries x) (zSeries x) 16 := by
  have h : KC ((cL cLabel x.labels + (cL cSample x.samples))) (zSeries x) 0 := (kc_stp (kc_LabelS x.labels) (kc_SampleS x.samples))
  have e : cSeries x = cL cLabel x.labels + cL cSample x.samples := rfl
  exact h.mono (by rw [e]; omega)
theorem f58_t (x : List Series) (hx : x.length ≤ 1048576 ∧ ∀ y ∈ x, SSeries y) : PFnT Tryz.prog 58 [eSeriesS x] (eSeriesS x) := by
  have hle : x.length ≤ 1048576 := hx.1
  refine fnp_ok (n := 23) Tryz.func58 rfl rfl rfl (Nat.le_of_ble_eq_true rfl) rfl fun w0 O => ?_
  refine ok_seq fun K1 h1 => ok_region rfl (q_as _ rfl (run_nil (h1 _ ?_))); clear h1 K1
  refine ok_seq fun K2 h2 => ok_region rfl (q_mv _ rfl (q_len eS22 rfl (q_make _ (.agg [.raw (.slice none 0 0), .raw (.slice none 0 0)]) el31 (by decide) ze83 rfl by83 rfl rfl rfl rfl (.inl ⟨rfl, rfl, rfl⟩) (by rw [List.length_map]; exact Nat.le_trans hle (by decide)) (by rw [List.length_map]; omega) (q_ao _ rfl (run_nil (h2 _ ?_)))))); clear h2 K2
  rw [List.length_map]
  refine ok_seq fun K3 h3 => ?_
  refine ok_seq fun K4 h4 => ok_region rfl (q_as _ rfl (run_nil (h4 _ ?_))); clear h4 K4
  refine ok_block ?_
  refine ok_loop (fun (rs : List SV) => ⟨[(0, .sv (eSeriesS x)), (3, .own 7), (4, .sv (int rs.length))], [(7, .row 2 83 (rs ++ List.replicate (x.length - rs.length) (.agg [.raw (.slice none 0 0), .raw (.slice none 0 0)])))]⟩) (fun rs => rs.length ≤ x.length ∧ Cps w0 rs ((x.take rs.length).map eSeries)) (fun rs => x.length - rs.length) [] ⟨Nat.zero_le _, Cps.nil w0⟩ (le_sub ⟨rfl, rfl, rfl, trivial⟩ ⟨rfl, trivial⟩) (fun rs J => ?_)
  obtain ⟨j1, j2⟩ := J
  refine ok_seq fun K5 h5 => ?_
  refine ok_seq fun K6 h6 => ok_region rfl (q_mv _ rfl (q_mv _ rfl (q_len eS22 rfl (q_bin _ _ _ rfl rfl rfl (run_nil (h6 _ ?_)))))); clear h6 K6
  rw [List.length_map]
  refine ok_cond rfl (fun c7 => ?_) (fun c7 => ?_)
  · refine ok_skip (h5 _ ?_)
    have hk : rs.length < x.length := by simpa using c7
    obtain ⟨u, hu⟩ := sget hk
    refine ok_seq fun K8 h8 => ?_
    refine ok_block ?_
    refine ok_last fun K9 h9 => ok_region rfl (q_mo _ rfl (q_mv _ rfl (q_mv _ rfl (q_mv _ rfl (q_ia el22 rfl rfl (by omega) (mget (f := eSeries) hu) (q_lds _ ag135 rfl sz135 (q_callr (f120_t u (hx.2 u (smem hu))) cl120 rfl (fun r hr hz hap => ?_))))))))
    have hfresh := j2.snoc hr (fun y hy b hb => hap.2 7 2 83 _ y b rfl (List.mem_append_left _ hy) hb) hz
    rw [show (x.take rs.length).map eSeries ++ [eSeries u] = (x.take (rs ++ [r]).length).map eSeries by rw [List.length_append, List.length_cons, List.length_nil, List.take_add_one, hu, List.map_append]; rfl] at hfresh
    obtain ⟨Z0, v0, Z1, v1, rfl, d0_1⟩ := gi_Series hr
    refine q_iao el31 rfl rfl rfl (by omega) (by simp; omega) (q_ste sz83 rfl rfl (fillR_get hk) rfl (.inl ⟨_, rfl⟩) rfl (run_nil (h9 _ (h8 _ ?_))))
    refine ok_last fun K10 h10 => ok_region rfl (q_mv _ rfl (q_add rfl rfl (by omega) (q_as _ rfl (run_nil (h10 _ (⟨rs ++ [.agg [.tr Z0 (eLabelS u.labels) v0, .tr Z1 (eSampleS u.samples) v1]], by simp only [List.length_append, List.length_cons, List.length_nil]; omega, ⟨by simp only [List.length_append, List.length_cons, List.length_nil]; omega, hfresh⟩, ?_⟩))))))
    rw [← fillR_set hk]
    have e : ((rs ++ [(.agg [.tr Z0 (eLabelS u.labels) v0, .tr Z1 (eSampleS u.samples) v1] : SV)]).length : Int) = (rs.length : Int) + 1 := by simp
    rw [e]
    exact le_sub ⟨rfl, rfl, rfl, trivial⟩ ⟨rfl, trivial⟩
  · have hk : rs.length = x.length := by have : ¬ ((rs.length : Int) < x.length) := by simpa using c7
                                         omega
    have e : rs ++ List.replicate (x.length - rs.length) (.agg [.raw (.slice none 0 0), .raw (.slice none 0 0)]) = rs := by rw [hk, Nat.sub_self]; simp
    rw [hk, List.take_length] at j2
    rw [e]
    refine ok_exit (h3 _ ?_)
    refine ok_seq fun K11 h11 => ok_region rfl (q_mo _ rfl (q_ao _ rfl (run_nil (h11 _ ?_)))); clear h11 K11
    refine ok_treed (k := 7) (n := 2) (T := 83) (rs := rs) (ss := x.map eSeries) rfl j2.len j2.gd j2.ap (fun r hr b hb => .inl (j2.nw r hr b hb)) (fun Z v hZ => ?_)
    exact ok_ret ⟨_, ⟨_, _, rfl, rfl, rfl⟩, .tr Z 2 _ v, fun b hb => (hZ b (zn_tr hb)).elim id fun h => h.elim⟩
theorem f27_n (k : Int) : PFn Tryz.prog 27 [.sl 2 [], int k] (int k) := by
  refine fn_ok' (n := 27) Tryz.func27 rfl rfl rfl (Nat.le_of_ble_eq_true rfl) rfl fun w0 O => ?_
  refine ok_seq fun K1 h1 => ok_region rfl (q_as _ rfl (run_nil (h1 _ ?_))); clear h1 K1
  refine ok_seq fun K2 h2 => ?_
  refine ok_seq fun K3 h3 => ok_region rfl (q_as _ rfl (run_nil (h3 _ ?_))); clear h3 K3
  refine ok_block ?_
  refine ok_loop (fun (_ : Nat) => ⟨[(0, .sv (.sl 2 [])), (1, .sv (int k)), (5, .sv (int 0))], []⟩) (fun k => True) (fun k => 0) 0 trivial (le_same ⟨rfl, rfl, rfl, trivial⟩) (fun _ J => ?_)
  refine ok_seq fun K4 h4 => ?_
  refine ok_seq fun K5 h5 => ok_region rfl (q_mv _ rfl (q_mv _ rfl (q_len eS31 rfl (q_bin _ _ _ rfl rfl rfl (run_nil (h5 _ ?_)))))); clear h5 K5
  refine ok_cond rfl (fun c6 => ?_) (fun c6 => ?_)
  · simp at c6
  · refine ok_exit (h2 _ ?_)
    refine ok_seq fun K11 h11 => ok_region rfl (q_mv _ rfl (q_as _ rfl (run_nil (h11 _ ?_)))); clear h11 K11
    exact ok_ret ⟨_, rfl, rfl⟩
theorem f27_m (l : List Series) (hs : l.length ≤ 1048576 ∧ ∀ y ∈ l, NSeries y) (k : Nat) (h0 : 1 ≤ k) (hk : k + cL cSeries l ≤ 1152921504606846976) : MarkC Tryz.prog 27 (eSeriesS l) k (fun k' s' => k' = ((k + cL cSeries l : Nat) : Int) ∧ ∃ l', s' = eSeriesS l' ∧ HL cSeries hSeries l' k ∧ cL cSeries l' = cL cSeries l ∧ l'.length ≤ 1048576 ∧ ∀ y ∈ l', NSeries y) := by
  refine fnm_ok (t := 4) (n := 2) (l := l.map eSeries) Tryz.func27 rfl rfl rfl (by decide) (fun hn w v hr => ?_) (fun w0 Z v T rs hlen hpos hgd hap hzn => ?_)
  · have hl0 : l = [] := by simpa using hn
    subst hl0
    exact (hnil_of (f27_n k) w v hr).mono fun e w' ⟨he, hx⟩ => ⟨_, _, he, ⟨rfl, [], rfl, trivial, rfl, ⟨by simp, by simp⟩⟩, rfl, hx⟩
  · have S : ShG Z eSeries rs l := ⟨by simpa using hlen, hap, hzn, fun j r x hr hx => hgd j r _ hr (mget hx)⟩
    refine ok_seq fun K1 h1 => ok_region rfl (q_as _ rfl (run_nil (h1 _ ?_))); clear h1 K1
    refine ok_seq fun K2 h2 => ?_
    refine ok_seq fun K3 h3 => ok_region rfl (q_as _ rfl (run_nil (h3 _ ?_))); clear h3 K3
    refine ok_block ?_
    refine ok_loop (fun (s : List Series × List Series × List SV × Nat) => ⟨[(0, .own 0), (1, .sv (int (s.2.2.2 : Int))), (5, .sv (int (s.1.length : Int)))], [(0, .row 2 T s.2.2.1)]⟩) (fun s => ShG Z eSeries s.2.2.1 (s.1 ++ s.2.1) ∧ s.2.2.2 = k + cL cSeries s.1 ∧ HL cSeries hSeries s.1 k ∧ cL cSeries s.1 + cL cSeries s.2.1 = cL cSeries l ∧ s.1.length + s.2.1.length = l.length ∧ (∀ z ∈ s.1, NSeries z) ∧ ∀ z ∈ s.2.1, NSeries z) (fun s => s.2.1.length) ([], l, rs, k) ⟨S, rfl, trivial, by simp [cL], by simp, by simp, hs.2⟩ (le_sub ⟨rfl, rfl, rfl, trivial⟩ ⟨rfl, trivial⟩) (fun s J => ?_)
    clear S hlen hgd hap hzn
    obtain ⟨d, rest, rs, kk⟩ := s
    obtain ⟨S, j2, j3, j4, j5, j6, j7⟩ := J
    simp only at S j2 j3 j4 j5 j6 j7
    have hll : l.length ≤ 1048576 := hs.1
    have hsl := S.len
    rw [List.length_append] at hsl
    refine ok_seq fun K4 h4 => ?_
    refine ok_seq fun K5 h5 => ok_region rfl (q_mv _ rfl (q_mo _ rfl (q_leno eS31 rfl rfl (q_bin _ _ _ rfl rfl rfl (run_nil (h5 _ ?_)))))); clear h5 K5
    refine ok_cond rfl (fun c6 => ?_) (fun c6 => ?_)
    · have hi : d.length < rs.length := by simpa using c6
      obtain ⟨u, rest, rfl⟩ : ∃ u t, rest = u :: t := by cases rest with | nil => simp at hsl; omega | cons u t => exact ⟨u, t, rfl⟩
      obtain ⟨r, hr0, hg⟩ := S.here
      obtain ⟨u0, u1⟩ := u
      obtain ⟨Z0, v0, Z1, v1, rfl, d0_1⟩ := gi_Series hg
      have hc : cL cSeries ((⟨u0, u1⟩ : Series) :: rest) = (cL cLabel u0 + cL cSample u1) + cL cSeries rest := rfl
      rw [hc] at j4
      rw [List.length_cons] at j5
      have hNu := j7 _ (List.mem_cons_self ..)
      obtain ⟨hn0, hn1⟩ : (u0.length ≤ 1048576) ∧ (u1.length ≤ 1048576) := hNu
      refine ok_skip (h4 _ ?_)
      refine ok_seq fun K7 h7 => ?_
      refine ok_block ?_
      refine ok_seq fun K8 h8 => ?_
      refine ok_region rfl (q_mo _ rfl (q_mv _ rfl (q_iao el31 rfl rfl rfl (by omega) (slt hr0) (q_fae fd83_0 rfl (by decide) (q_ldef (.tr Z0 (eLabelS u0) v0) ag80 rfl rfl hr0 rfl (q_mv _ rfl (q_mark (k := ((kk : Nat) : Int)) (f72_m u0 hn0 (kk) (by omega) (by omega)) cl72 rfl rfl (fun b hb => .inr (S.zn _ (smem hr0) b (.agg _ (.tr Z0 (eLabelS u0) v0) (by simp) (.tr Z0 (eLabelS u0) v0 hb)))) (fun _ => mkDT _) (fun s' => [(0, .row 2 T (_))]) (fun s' => mkDT_ok _) (fun s' => ⟨rfl, mk_rowG (r' := .agg [.tr Z0 s' v0, .tr Z1 (eSampleS u1) v1]) S hr0 (fun b hb => (.agg _ (.tr Z0 (eLabelS u0) v0) (by simp) (.tr Z0 (eLabelS u0) v0 hb))) (mk_aggL ⟨.same, .other _ _ _ (fun b hb hb' => d0_1 b hb' hb), trivial⟩), trivial⟩) (fun k' s' hR => ?_))))))))
      obtain ⟨rfl, w0, rfl, hh0, hc0, hm0⟩ := hR
      refine q_as _ rfl (run_nil (h8 _ ?_))
      have S1 := S.set (u' := (⟨w0, u1⟩ : Series)) hr0 (r' := .agg [.tr Z0 (eLabelS w0) v0, .tr Z1 (eSampleS u1) v1]) (gc_Series (⟨w0, u1⟩ : Series) d0_1) (fun b hb => by simp only [znA_cons, znI_raw, znI_tr, znA_nil, or_false, false_or] at hb ⊢; exact hb)
      have hr1 := set_self_getG (x := (.agg [.tr Z0 (eLabelS w0) v0, .tr Z1 (eSampleS u1) v1] : SV)) hr0
      clear h8 K8
      refine ok_last fun K9 h9 => ok_region rfl (q_mo _ rfl (q_mv _ rfl (q_iao el31 rfl rfl rfl (by omega) (slt hr1) (q_fae fd83_1 rfl (by decide) (q_ldef (.tr Z1 (eSampleS u1) v1) ag81 rfl rfl hr1 rfl (q_mv _ rfl (q_mark (k := ((kk + cL cLabel u0 : Nat) : Int)) (f73_m u1 hn1 (kk + cL cLabel u0) (by omega) (by omega)) cl73 rfl rfl (fun b hb => .inr (S1.zn _ (smem hr1) b (.agg _ (.tr Z1 (eSampleS u1) v1) (by simp) (.tr Z1 (eSampleS u1) v1 hb)))) (fun _ => mkDT _) (fun s' => [(0, .row 2 T (_))]) (fun s' => mkDT_ok _) (fun s' => ⟨rfl, mk_rowG (r' := .agg [.tr Z0 (eLabelS w0) v0, .tr Z1 s' v1]) S1 hr1 (fun b hb => (.agg _ (.tr Z1 (eSampleS u1) v1) (by simp) (.tr Z1 (eSampleS u1) v1 hb))) (mk_aggL ⟨.other _ _ _ (d0_1), .same, trivial⟩), trivial⟩) (fun k' s' hR => ?_))))))))
      obtain ⟨rfl, w1, rfl, hh1, hc1, hm1⟩ := hR
      refine q_as _ rfl (run_nil (h9 _ (h7 _ ?_)))
      have S2 := S1.set (u' := (⟨w0, w1⟩ : Series)) hr1 (r' := .agg [.tr Z0 (eLabelS w0) v0, .tr Z1 (eSampleS w1) v1]) (gc_Series (⟨w0, w1⟩ : Series) d0_1) (fun b hb => by simp only [znA_cons, znI_raw, znI_tr, znA_nil, or_false, false_or] at hb ⊢; exact hb)
      have hr2 := set_self_getG (x := (.agg [.tr Z0 (eLabelS w0) v0, .tr Z1 (eSampleS w1) v1] : SV)) hr1
      have hcU : cSeries (⟨w0, w1⟩ : Series) = cL cLabel w0 + cL cSample w1 := rfl
      have hLU : cL cSeries (d ++ [(⟨w0, w1⟩ : Series)]) = cL cSeries d + (cL cLabel w0 + cL cSample w1) := by rw [cL_snoc, hcU]
      have hHU : HL cSeries hSeries (d ++ [(⟨w0, w1⟩ : Series)]) k := HL_snoc j3 (by rw [← j2]; exact ⟨(by show HL cLabel hLabel w0 (kk); exact hh0), (by show HL cSample hSample w1 (kk + cL cLabel w0); rw [hc0]; exact hh1)⟩)
      rw [List.append_cons] at S2
      have hNU : NSeries (⟨w0, w1⟩ : Series) := ⟨hm0, hm1⟩
      refine ok_last fun K10 h10 => ok_region rfl (q_mv _ rfl (q_add rfl rfl (by show -9223372036854775808 ≤ ((d.length : Nat) : Int) + 1 ∧ ((d.length : Nat) : Int) + 1 ≤ 9223372036854775807; omega) (q_as _ rfl (run_nil (h10 _ (⟨(d ++ [(⟨w0, w1⟩ : Series)], rest, _, kk + cL cLabel u0 + cL cSample u1), by simp, ⟨S2, by show kk + cL cLabel u0 + cL cSample u1 = _; rw [hLU]; omega, hHU, by show cL cSeries (d ++ [(⟨w0, w1⟩ : Series)]) + cL _ rest = _; rw [hLU]; omega, by show (d ++ [_]).length + rest.length = _; rw [List.length_append, List.length_singleton]; omega, fun z hz => (List.mem_append.1 hz).elim (j6 z) (fun h => by rw [List.mem_singleton] at h; subst h; exact hNU), fun z hz => j7 z (List.mem_cons_of_mem _ hz)⟩, le_sub ⟨rfl, rfl, (congrArg (fun n : Int => some (LV.sv (int n))) (show ((d.length : Nat) : Int) + 1 = ((d ++ [(⟨w0, w1⟩ : Series)]).length : Nat) from by simp)), trivial⟩ ⟨rfl, trivial⟩⟩))))))
    · have hi : ¬ d.length < rs.length := by simpa using c6
      have hrest : rest = [] := by cases rest with | nil => rfl | cons u t => simp at hsl; omega
      subst hrest
      rw [List.append_nil] at S
      simp only [cL] at j4
      rw [List.length_nil] at j5
      have hkk : kk = k + cL cSeries l := by omega
      refine ok_exit (h2 _ ?_)
      refine ok_seq fun K11 h11 => ok_region rfl (q_mv _ rfl (q_as _ rfl (run_nil (h11 _ ?_)))); clear h11 K11
      exact ok_ret ⟨_, rs, d.map eSeries, rfl, rfl, by simpa using S.len, fun j r s hr hs => (by rw [List.getElem?_map] at hs; obtain ⟨x, hx, rfl⟩ := Option.map_eq_some_iff.1 hs; exact S.gd j r x hr hx), S.ap, S.zn, by rw [hkk], d, rfl, j3, by omega, ⟨by omega, j6⟩⟩
theorem f28_h (l : List Series) (hs : l.length ≤ 1048576 ∧ ∀ y ∈ l, NSeries y) (k : Nat) (h0 : 1 ≤ k) (hk : k + cL cSeries l ≤ 1152921504606846976) (hh : HL cSeries hSeries l k) : PFn Tryz.prog 28 [eSeriesS l, int k] (int ((k + cL cSeries l : Nat) : Int)) := by
  refine fn_ok' (n := 31) Tryz.func28 rfl rfl rfl (Nat.le_of_ble_eq_true rfl) rfl fun w0 O => ?_
  refine ok_seq fun K1 h1 => ok_region rfl (q_as _ rfl (run_nil (h1 _ ?_))); clear h1 K1
  refine ok_seq fun K2 h2 => ?_
  refine ok_seq fun K3 h3 => ok_region rfl (q_as _ rfl (run_nil (h3 _ ?_))); clear h3 K3
  refine ok_block ?_
  refine ok_loop (fun (s : List Series × List Series × Nat) => ⟨[(0, .sv (eSeriesS l)), (1, .sv (int (s.2.2 : Int))), (5, .sv (int (s.1.length : Int)))], []⟩) (fun s => l = s.1 ++ s.2.1 ∧ s.2.2 + cL cSeries s.2.1 = k + cL cSeries l ∧ HL cSeries hSeries s.2.1 s.2.2 ∧ k ≤ s.2.2) (fun s => s.2.1.length) ([], l, k) ⟨rfl, rfl, hh, Nat.le_refl _⟩ (le_same ⟨rfl, rfl, rfl, trivial⟩) (fun s J => ?_)
  obtain ⟨d, rest, kk⟩ := s
  obtain ⟨j1, j2, j3, j4⟩ := J
  simp only at j1 j2 j3 j4
  have hll : l.length ≤ 1048576 := hs.1
  have hdl : l.length = d.length + rest.length := by rw [j1, List.length_append]
  refine ok_seq fun K4 h4 => ?_
  refine ok_seq fun K5 h5 => ok_region rfl (q_mv _ rfl (q_mv _ rfl (q_len eS31 rfl (q_bin _ _ _ rfl rfl rfl (run_nil (h5 _ ?_)))))); clear h5 K5
  rw [List.length_map]
  refine ok_cond rfl (fun c6 => ?_) (fun c6 => ?_)
  · have hi : d.length < l.length := by simpa using c6
    obtain ⟨u, rest, rfl⟩ : ∃ u t, rest = u :: t := by cases rest with | nil => simp at hdl; omega | cons u t => exact ⟨u, t, rfl⟩
    have hu : l[d.length]? = some u := by rw [j1, List.getElem?_append_right (Nat.le_refl _), Nat.sub_self]; rfl
    have hNu := hs.2 u (smem hu)
    obtain ⟨u0, u1⟩ := u
    obtain ⟨hE, j3⟩ := j3
    obtain ⟨e0, e1⟩ : HL cLabel hLabel u0 (kk) ∧ HL cSample hSample u1 (kk + cL cLabel u0) := hE
    have hc : cL cSeries ((⟨u0, u1⟩ : Series) :: rest) = (cL cLabel u0 + cL cSample u1) + cL cSeries rest := rfl
    rw [hc] at j2
    rw [List.length_cons] at hdl
    obtain ⟨hn0, hn1⟩ : (u0.length ≤ 1048576) ∧ (u1.length ≤ 1048576) := hNu
    refine ok_skip (h4 _ ?_)
    refine ok_seq fun K7 h7 => ?_
    refine ok_block ?_
    refine ok_seq fun K8 h8 => ?_
    refine ok_region rfl (q_mv _ rfl (q_mv _ rfl (q_ia el31 rfl rfl (by omega) (mget (f := eSeries) hu) (q_fa _ fd83_0 rfl rfl (by decide) (q_ld _ ag80 rfl rfl (q_mv _ rfl (q_call (f74_h u0 hn0 (kk) (by omega) (by omega) e0) cl74 rfl rfl (q_as _ rfl (run_nil (h8 _ ?_))))))))))
    clear h8 K8
    refine ok_seq fun K9 h9 => ?_
    refine ok_seq fun K10 h10 => ok_region rfl (q_mv _ rfl (q_bin _ _ _ rfl rfl rfl (run_nil (h10 _ ?_)))); clear h10 K10
    refine ok_cond rfl (fun c11 => ?_) (fun c11 => ?_)
    · have := of_decide_eq_true c11; omega
    · refine ok_skip (h9 _ ?_)
      refine ok_seq fun K13 h13 => ?_
      refine ok_region rfl (q_mv _ rfl (q_mv _ rfl (q_ia el31 rfl rfl (by omega) (mget (f := eSeries) hu) (q_fa _ fd83_1 rfl rfl (by decide) (q_ld _ ag81 rfl rfl (q_mv _ rfl (q_call (f75_h u1 hn1 (kk + cL cLabel u0) (by omega) (by omega) e1) cl75 rfl rfl (q_as _ rfl (run_nil (h13 _ ?_))))))))))
      clear h13 K13
      refine ok_seq fun K14 h14 => ok_region rfl (q_mv _ rfl (q_bin _ _ _ rfl rfl rfl (run_nil (h14 _ ?_)))); clear h14 K14
      refine ok_cond rfl (fun c15 => ?_) (fun c15 => ?_)
      · have := of_decide_eq_true c15; omega
      · refine ok_skip (h7 _ ?_)
        refine ok_last fun K17 h17 => ok_region rfl (q_mv _ rfl (q_add rfl rfl (by show -9223372036854775808 ≤ ((d.length : Nat) : Int) + 1 ∧ ((d.length : Nat) : Int) + 1 ≤ 9223372036854775807; omega) (q_as _ rfl (run_nil (h17 _ (⟨(d ++ [(⟨u0, u1⟩ : Series)], rest, kk + cL cLabel u0 + cL cSample u1), by simp, ⟨by show l = (d ++ [_]) ++ rest; rw [j1, List.append_cons], by show kk + cL cLabel u0 + cL cSample u1 + cL cSeries rest = _; omega, by have h9 := j3; rw [show kk + cSeries (⟨u0, u1⟩ : Series) = kk + cL cLabel u0 + cL cSample u1 from by show kk + (cL cLabel u0 + cL cSample u1) = _; omega] at h9; exact h9, by show k ≤ kk + cL cLabel u0 + cL cSample u1; omega⟩, le_same ⟨rfl, rfl, (congrArg (fun n : Int => some (LV.sv (int n))) (show ((d.length : Nat) : Int) + 1 = ((d ++ [(⟨u0, u1⟩ : Series)]).length : Nat) from by simp)), trivial⟩⟩))))))
  · have hi : ¬ d.length < l.length := by simpa using c6
    have hrest : rest = [] := by cases rest with | nil => rfl | cons u t => simp at hdl; omega
    subst hrest
    simp only [cL] at j2
    have hkk : kk = k + cL cSeries l := by omega
    refine ok_exit (h2 _ ?_)
    refine ok_seq fun K18 h18 => ok_region rfl (q_mv _ rfl (q_as _ rfl (run_nil (h18 _ ?_)))); clear h18 K18
    subst hkk; exact ok_ret ⟨_, rfl, rfl⟩
theorem kc_SeriesS (l : List Series) : KC (cL cSeries l) (zSeriesS l) 0 := kc_sl kc_Series l
theorem gi_Stone {x : Stone} {r : SV} (h : Gd r (eStone x)) : ∃ (Z0 : Nat → Prop) (v0 : Value), r = .agg [.tr Z0 (eLabelS x.labels) v0, int x.from_, int x.to] := by
  obtain ⟨rs, rfl, g, a⟩ := gd_agg_inv h
  obtain ⟨r0, q0, rfl, g0, g⟩ := g.inv_cons
  obtain ⟨r1, q1, rfl, g1, g⟩ := g.inv_cons
  obtain ⟨r2, q2, rfl, g2, g⟩ := g.inv_cons
  obtain rfl := g.inv_nil
  obtain ⟨Z0, v0, rfl⟩ := gd_sl_inv g0
  obtain rfl := gd_raw_inv g1
  obtain rfl := gd_raw_inv g2
  exact ⟨Z0, v0, rfl⟩
theorem gc_Stone (x : Stone) {Z0 : Nat → Prop} {v0 : Value}  : Gd (.agg [.tr Z0 (eLabelS x.labels) v0, int x.from_, int x.to]) (eStone x) := gd_agg ⟨.tr _ _ _ _, .raw _, .raw _, trivial⟩ (AL_tr (fun b hb hb' => by simp only [znA_cons, znI_raw, znI_tr, znA_nil, or_false, false_or] at hb') (AL_raw (AL_raw trivial)))
def NStone (x : Stone) : Prop := x.labels.length ≤ 1048576
theorem nStone_of {x : Stone} (h : SStone x) : NStone x := (h).1
def cStone (x : Stone) : Nat := cL cLabel x.labels + 1 + 1
def hStone (x : Stone) (k : Nat) : Prop := HL cLabel hLabel x.labels (k) ∧ x.from_ = ((k + cL cLabel x.labels : Nat) : Int) ∧ x.to = ((k + cL cLabel x.labels + 1 : Nat) : Int)
theorem f121_t (x : Stone) (hx : SStone x) : PFnT Tryz.prog 121 [eStone x] (eStone x) := by
  refine fnp_ok (n := 15) Tryz.func121 rfl rfl rfl (Nat.le_of_ble_eq_true rfl) rfl fun w0 O => ?_
  refine ok_seq fun K1 h1 => ok_region rfl (q_boxs _ rfl (Nat.zero_lt_succ _) (q_alloc _ ze103 rfl rfl rfl rfl (run_nil (h1 _ ?_)))); clear h1 K1
  refine ok_seq fun K2 h2 => ok_region rfl (q_alloc _ ze103 rfl rfl rfl rfl (run_nil (h2 _ ?_))); clear h2 K2
  refine ok_seq fun K3 h3 => ok_region rfl (q_fa _ fd138_0 rfl rfl (by decide) (q_ld _ ag132 rfl rfl (q_callr (f176_t x.labels (hx)) cl176 rfl (fun r0 hr0 hz0 ha0 => ?_))))
  obtain ⟨Z0, v0, rfl⟩ := gd_sl_inv hr0
  refine q_fap fd103_0 rfl (by decide) (q_st _ sz80 rfl rfl (Nat.le_of_ble_eq_true rfl) rfl ⟨_, rfl, rfl⟩ rfl (run_nil (h3 _ ?_)))
  clear h3 K3
  refine ok_seq fun K4 h4 => ok_region rfl (q_fa _ fd138_1 rfl rfl (by decide) (q_ld _ ag3 rfl rfl (q_fap fd103_1 rfl (by decide) (q_st _ sz3 rfl rfl (Nat.le_of_ble_eq_true rfl) rfl ⟨_, rfl, rfl⟩ rfl (run_nil (h4 _ ?_)))))); clear h4 K4
  refine ok_seq fun K5 h5 => ok_region rfl (q_fa _ fd138_2 rfl rfl (by decide) (q_ld _ ag3 rfl rfl (q_fap fd103_2 rfl (by decide) (q_st _ sz3 rfl rfl (Nat.le_of_ble_eq_true rfl) rfl ⟨_, rfl, rfl⟩ rfl (run_nil (h5 _ ?_)))))); clear h5 K5
  refine ok_seq fun K6 h6 => ok_region rfl (q_ldbs ag103 rfl rfl sz103 rfl rfl (q_sts _ rfl rfl rfl sz103 (Nat.le_of_ble_eq_true rfl) rfl (run_nil (h6 _ ?_)))); clear h6 K6
  refine ok_ret ⟨[.agg [.tr Z0 (eLabelS x.labels) v0, int x.from_, int x.to]], ⟨_, _, res_cells (l := [.tr Z0 (eLabelS x.labels) v0, int x.from_, int x.to]) rfl rfl ag103 sz103 rfl, rfl, rfl⟩, gc_Stone x , fun b hb => ?_⟩
  have hb : Zn b (.agg [.tr Z0 (eLabelS x.labels) v0, int x.from_, int x.to]) := hb
  simp only [znA_cons, znI_raw, znI_tr, znA_nil, or_false, false_or] at hb
  exact hz0 b (.tr Z0 _ v0 hb)
theorem kc_Stone (x : Stone) : KC (cStone x) (zStone x) 16 := by
  have h : KC ((cL cLabel x.labels)) (zStone x) 0 := (kc_LabelS x.labels)
  have e : cStone x = cL cLabel x.labels + 1 + 1 := rfl
  exact h.mono (by rw [e]; omega)
theorem f59_t (x : List Stone) (hx : x.length ≤ 1048576 ∧ ∀ y ∈ x, SStone y) : PFnT Tryz.prog 59 [eStoneS x] (eStoneS x) := by
  have hle : x.length ≤ 1048576 := hx.1
  refine fnp_ok (n := 23) Tryz.func59 rfl rfl rfl (Nat.le_of_ble_eq_true rfl) rfl fun w0 O => ?_
  refine ok_seq fun K1 h1 => ok_region rfl (q_as _ rfl (run_nil (h1 _ ?_))); clear h1 K1
  refine ok_seq fun K2 h2 => ok_region rfl (q_mv _ rfl (q_len eS23 rfl (q_make _ (.agg [.raw (.slice none 0 0), .raw (.int .i64 0), .raw (.int .i64 0)]) el32 (by decide) ze103 rfl by103 rfl rfl rfl rfl (.inl ⟨rfl, rfl, rfl⟩) (by rw [List.length_map]; exact Nat.le_trans hle (by decide)) (by rw [List.length_map]; omega) (q_ao _ rfl (run_nil (h2 _ ?_)))))); clear h2 K2
  rw [List.length_map]
  refine ok_seq fun K3 h3 => ?_
  refine ok_seq fun K4 h4 => ok_region rfl (q_as _ rfl (run_nil (h4 _ ?_))); clear h4 K4
  refine ok_block ?_
  refine ok_loop (fun (rs : List SV) => ⟨[(0, .sv (eStoneS x)), (3, .own 7), (4, .sv (int rs.length))], [(7, .row 3 103 (rs ++ List.replicate (x.length - rs.length) (.agg [.raw (.slice none 0 0), .raw (.int .i64 0), .raw (.int .i64 0)])))]⟩) (fun rs => rs.length ≤ x.length ∧ Cps w0 rs ((x.take rs.length).map eStone)) (fun rs => x.length - rs.length) [] ⟨Nat.zero_le _, Cps.nil w0⟩ (le_sub ⟨rfl, rfl, rfl, trivial⟩ ⟨rfl, trivial⟩) (fun rs J => ?_)
  obtain ⟨j1, j2⟩ := J
  refine ok_seq fun K5 h5 => ?_
  refine ok_seq fun K6 h6 => ok_region rfl (q_mv _ rfl (q_mv _ rfl (q_len eS23 rfl (q_bin _ _ _ rfl rfl rfl (run_nil (h6 _ ?_)))))); clear h6 K6
  rw [List.length_map]
  refine ok_cond rfl (fun c7 => ?_) (fun c7 => ?_)
  · refine ok_skip (h5 _ ?_)
    have hk : rs.length < x.length := by simpa using c7
    obtain ⟨u, hu⟩ := sget hk
    refine ok_seq fun K8 h8 => ?_
    refine ok_block ?_
    refine ok_last fun K9 h9 => ok_region rfl (q_mo _ rfl (q_mv _ rfl (q_mv _ rfl (q_mv _ rfl (q_ia el23 rfl rfl (by omega) (mget (f := eStone) hu) (q_lds _ ag138 rfl sz138 (q_callr (f121_t u (hx.2 u (smem hu))) cl121 rfl (fun r hr hz hap => ?_))))))))
    have hfresh := j2.snoc hr (fun y hy b hb => hap.2 7 3 103 _ y b rfl (List.mem_append_left _ hy) hb) hz
    rw [show (x.take rs.length).map eStone ++ [eStone u] = (x.take (rs ++ [r]).length).map eStone by rw [List.length_append, List.length_cons, List.length_nil, List.take_add_one, hu, List.map_append]; rfl] at hfresh
    obtain ⟨Z0, v0, rfl⟩ := gi_Stone hr
    refine q_iao el32 rfl rfl rfl (by omega) (by simp; omega) (q_ste sz103 rfl rfl (fillR_get hk) rfl (.inl ⟨_, rfl⟩) rfl (run_nil (h9 _ (h8 _ ?_))))
    refine ok_last fun K10 h10 => ok_region rfl (q_mv _ rfl (q_add rfl rfl (by omega) (q_as _ rfl (run_nil (h10 _ (⟨rs ++ [.agg [.tr Z0 (eLabelS u.labels) v0, int u.from_, int u.to]], by simp only [List.length_append, List.length_cons, List.length_nil]; omega, ⟨by simp only [List.length_append, List.length_cons, List.length_nil]; omega, hfresh⟩, ?_⟩))))))
    rw [← fillR_set hk]
    have e : ((rs ++ [(.agg [.tr Z0 (eLabelS u.labels) v0, int u.from_, int u.to] : SV)]).length : Int) = (rs.length : Int) + 1 := by simp
    rw [e]
    exact le_sub ⟨rfl, rfl, rfl, trivial⟩ ⟨rfl, trivial⟩
  · have hk : rs.length = x.length := by have : ¬ ((rs.length : Int) < x.length) := by simpa using c7
                                         omega
    have e : rs ++ List.replicate (x.length - rs.length) (.agg [.raw (.slice none 0 0), .raw (.int .i64 0), .raw (.int .i64 0)]) = rs := by rw [hk, Nat.sub_self]; simp
    rw [hk, List.take_length] at j2
    rw [e]
    refine ok_exit (h3 _ ?_)
    refine ok_seq fun K11 h11 => ok_region rfl (q_mo _ rfl (q_ao _ rfl (run_nil (h11 _ ?_)))); clear h11 K11
    refine ok_treed (k := 7) (n := 3) (T := 103) (rs := rs) (ss := x.map eStone) rfl j2.len j2.gd j2.ap (fun r hr b hb => .inl (j2.nw r hr b hb)) (fun Z v hZ => ?_)
    exact ok_ret ⟨_, ⟨_, _, rfl, rfl, rfl⟩, .tr Z 3 _ v, fun b hb => (hZ b (zn_tr hb)).elim id fun h => h.elim⟩
theorem f66_n (k : Int) : PFn Tryz.prog 66 [.sl 3 [], int k] (int k) := by
  refine fn_ok' (n := 34) Tryz.func66 rfl rfl rfl (Nat.le_of_ble_eq_true rfl) rfl fun w0 O => ?_
  refine ok_seq fun K1 h1 => ok_region rfl (q_as _ rfl (run_nil (h1 _ ?_))); clear h1 K1
  refine ok_seq fun K2 h2 => ?_
  refine ok_seq fun K3 h3 => ok_region rfl (q_as _ rfl (run_nil (h3 _ ?_))); clear h3 K3
  refine ok_block ?_
  refine ok_loop (fun (_ : Nat) => ⟨[(0, .sv (.sl 3 [])), (1, .sv (int k)), (5, .sv (int 0))], []⟩) (fun k => True) (fun k => 0) 0 trivial (le_same ⟨rfl, rfl, rfl, trivial⟩) (fun _ J => ?_)
  refine ok_seq fun K4 h4 => ?_
  refine ok_seq fun K5 h5 => ok_region rfl (q_mv _ rfl (q_mv _ rfl (q_len eS32 rfl (q_bin _ _ _ rfl rfl rfl (run_nil (h5 _ ?_)))))); clear h5 K5
  refine ok_cond rfl (fun c6 => ?_) (fun c6 => ?_)
  · simp at c6
  · refine ok_exit (h2 _ ?_)
    refine ok_seq fun K14 h14 => ok_region rfl (q_mv _ rfl (q_as _ rfl (run_nil (h14 _ ?_)))); clear h14 K14
    exact ok_ret ⟨_, rfl, rfl⟩
theorem f66_m (l : List Stone) (hs : l.length ≤ 1048576 ∧ ∀ y ∈ l, NStone y) (k : Nat) (h0 : 1 ≤ k) (hk : k + cL cStone l ≤ 1152921504606846976) : MarkC Tryz.prog 66 (eStoneS l) k (fun k' s' => k' = ((k + cL cStone l : Nat) : Int) ∧ ∃ l', s' = eStoneS l' ∧ HL cStone hStone l' k ∧ cL cStone l' = cL cStone l ∧ l'.length ≤ 1048576 ∧ ∀ y ∈ l', NStone y) := by
  refine fnm_ok (t := 4) (n := 3) (l := l.map eStone) Tryz.func66 rfl rfl rfl (by decide) (fun hn w v hr => ?_) (fun w0 Z v T rs hlen hpos hgd hap hzn => ?_)
  · have hl0 : l = [] := by simpa using hn
    subst hl0
    exact (hnil_of (f66_n k) w v hr).mono fun e w' ⟨he, hx⟩ => ⟨_, _, he, ⟨rfl, [], rfl, trivial, rfl, ⟨by simp, by simp⟩⟩, rfl, hx⟩
  · have S : ShG Z eStone rs l := ⟨by simpa using hlen, hap, hzn, fun j r x hr hx => hgd j r _ hr (mget hx)⟩
    refine ok_seq fun K1 h1 => ok_region rfl (q_as _ rfl (run_nil (h1 _ ?_))); clear h1 K1
    refine ok_seq fun K2 h2 => ?_
    refine ok_seq fun K3 h3 => ok_region rfl (q_as _ rfl (run_nil (h3 _ ?_))); clear h3 K3
    refine ok_block ?_
    refine ok_loop (fun (s : List Stone × List Stone × List SV × Nat) => ⟨[(0, .own 0), (1, .sv (int (s.2.2.2 : Int))), (5, .sv (int (s.1.length : Int)))], [(0, .row 3 T s.2.2.1)]⟩) (fun s => ShG Z eStone s.2.2.1 (s.1 ++ s.2.1) ∧ s.2.2.2 = k + cL cStone s.1 ∧ HL cStone hStone s.1 k ∧ cL cStone s.1 + cL cStone s.2.1 = cL cStone l ∧ s.1.length + s.2.1.length = l.length ∧ (∀ z ∈ s.1, NStone z) ∧ ∀ z ∈ s.2.1, NStone z) (fun s => s.2.1.length) ([], l, rs, k) ⟨S, rfl, trivial, by simp [cL], by simp, by simp, hs.2⟩ (le_sub ⟨rfl, rfl, rfl, trivial⟩ ⟨rfl, trivial⟩) (fun s J => ?_)
    clear S hlen hgd hap hzn
    obtain ⟨d, rest, rs, kk⟩ := s
    obtain ⟨S, j2, j3, j4, j5, j6, j7⟩ := J
    simp only at S j2 j3 j4 j5 j6 j7
    have hll : l.length ≤ 1048576 := hs.1
    have hsl := S.len
    rw [List.length_append] at hsl
    refine ok_seq fun K4 h4 => ?_
    refine ok_seq fun K5 h5 => ok_region rfl (q_mv _ rfl (q_mo _ rfl (q_leno eS32 rfl rfl (q_bin _ _ _ rfl rfl rfl (run_nil (h5 _ ?_)))))); clear h5 K5
    refine ok_cond rfl (fun c6 => ?_) (fun c6 => ?_)
    · have hi : d.length < rs.length := by simpa using c6
      obtain ⟨u, rest, rfl⟩ : ∃ u t, rest = u :: t := by cases rest with | nil => simp at hsl; omega | cons u t => exact ⟨u, t, rfl⟩
      obtain ⟨r, hr0, hg⟩ := S.here
      obtain ⟨u0, u1, u2⟩ := u
      obtain ⟨Z0, v0, rfl⟩ := gi_Stone hg
      have hc : cL cStone ((⟨u0, u1, u2⟩ : Stone) :: rest) = (cL cLabel u0 + 1 + 1) + cL cStone rest := rfl
      rw [hc] at j4
      rw [List.length_cons] at j5
      have hNu := j7 _ (List.mem_cons_self ..)
      have hn0 : u0.length ≤ 1048576 := hNu
      refine ok_skip (h4 _ ?_)
      refine ok_seq fun K7 h7 => ?_
      refine ok_block ?_
      refine ok_seq fun K8 h8 => ?_
      refine ok_region rfl (q_mo _ rfl (q_mv _ rfl (q_iao el32 rfl rfl rfl (by omega) (slt hr0) (q_fae fd103_0 rfl (by decide) (q_ldef (.tr Z0 (eLabelS u0) v0) ag80 rfl rfl hr0 rfl (q_mv _ rfl (q_mark (k := ((kk : Nat) : Int)) (f72_m u0 hn0 (kk) (by omega) (by omega)) cl72 rfl rfl (fun b hb => .inr (S.zn _ (smem hr0) b (.agg _ (.tr Z0 (eLabelS u0) v0) (by simp) (.tr Z0 (eLabelS u0) v0 hb)))) (fun _ => mkDT _) (fun s' => [(0, .row 3 T (_))]) (fun s' => mkDT_ok _) (fun s' => ⟨rfl, mk_rowG (r' := .agg [.tr Z0 s' v0, int u1, int u2]) S hr0 (fun b hb => (.agg _ (.tr Z0 (eLabelS u0) v0) (by simp) (.tr Z0 (eLabelS u0) v0 hb))) (mk_aggL ⟨.same, .raw _, .raw _, trivial⟩), trivial⟩) (fun k' s' hR => ?_))))))))
      obtain ⟨rfl, w0, rfl, hh0, hc0, hm0⟩ := hR
      refine q_as _ rfl (run_nil (h8 _ ?_))
      have S1 := S.set (u' := (⟨w0, u1, u2⟩ : Stone)) hr0 (r' := .agg [.tr Z0 (eLabelS w0) v0, int u1, int u2]) (gc_Stone (⟨w0, u1, u2⟩ : Stone) ) (fun b hb => by simp only [znA_cons, znI_raw, znI_tr, znA_nil, or_false, false_or] at hb ⊢; exact hb)
      have hr1 := set_self_getG (x := (.agg [.tr Z0 (eLabelS w0) v0, int u1, int u2] : SV)) hr0
      clear h8 K8
      refine ok_seq fun K9 h9 => ok_region rfl (q_mo _ rfl (q_mv _ rfl (q_mv _ rfl (q_iao el32 rfl rfl rfl (by omega) (slt hr1) (q_fae fd103_1 rfl (by decide) (q_stef sz3 rfl rfl hr1 (by simp) rfl rfl rfl (run_nil (h9 _ ?_)))))))); clear h9 K9
      have S2 := S1.set (u' := (⟨w0, ((kk + cL cLabel u0 : Nat) : Int), u2⟩ : Stone)) hr1 (r' := .agg [.tr Z0 (eLabelS w0) v0, int (((kk + cL cLabel u0 : Nat) : Int)), int u2]) (gc_Stone (⟨w0, ((kk + cL cLabel u0 : Nat) : Int), u2⟩ : Stone) ) (fun b hb => by simp only [znA_cons, znI_raw, znI_tr, znA_nil, or_false, false_or] at hb ⊢; exact hb)
      have hr2 := set_self_getG (x := (.agg [.tr Z0 (eLabelS w0) v0, int (((kk + cL cLabel u0 : Nat) : Int)), int u2] : SV)) hr1
      refine ok_seq fun K10 h10 => ok_region rfl (q_mv _ rfl (q_add rfl rfl (by show -9223372036854775808 ≤ ((kk + cL cLabel u0 : Nat) : Int) + 1 ∧ ((kk + cL cLabel u0 : Nat) : Int) + 1 ≤ 9223372036854775807; omega) (q_as _ rfl (run_nil (h10 _ ?_))))); clear h10 K10
      refine ok_seq fun K11 h11 => ok_region rfl (q_mo _ rfl (q_mv _ rfl (q_mv _ rfl (q_iao el32 rfl rfl rfl (by omega) (slt hr2) (q_fae fd103_2 rfl (by decide) (q_stef sz3 rfl rfl hr2 (by simp) rfl rfl rfl (run_nil (h11 _ ?_)))))))); clear h11 K11
      have S3 := S2.set (u' := (⟨w0, ((kk + cL cLabel u0 : Nat) : Int), ((kk + cL cLabel u0 + 1 : Nat) : Int)⟩ : Stone)) hr2 (r' := .agg [.tr Z0 (eLabelS w0) v0, int (((kk + cL cLabel u0 : Nat) : Int)), int (((kk + cL cLabel u0 + 1 : Nat) : Int))]) (gc_Stone (⟨w0, ((kk + cL cLabel u0 : Nat) : Int), ((kk + cL cLabel u0 + 1 : Nat) : Int)⟩ : Stone) ) (fun b hb => by simp only [znA_cons, znI_raw, znI_tr, znA_nil, or_false, false_or] at hb ⊢; exact hb)
      have hr3 := set_self_getG (x := (.agg [.tr Z0 (eLabelS w0) v0, int (((kk + cL cLabel u0 : Nat) : Int)), int (((kk + cL cLabel u0 + 1 : Nat) : Int))] : SV)) hr2
      refine ok_last fun K12 h12 => ok_region rfl (q_mv _ rfl (q_add rfl rfl (by show -9223372036854775808 ≤ ((kk + cL cLabel u0 + 1 : Nat) : Int) + 1 ∧ ((kk + cL cLabel u0 + 1 : Nat) : Int) + 1 ≤ 9223372036854775807; omega) (q_as _ rfl (run_nil (h12 _ (h7 _ ?_))))))
      have hcU : cStone (⟨w0, ((kk + cL cLabel u0 : Nat) : Int), ((kk + cL cLabel u0 + 1 : Nat) : Int)⟩ : Stone) = cL cLabel w0 + 1 + 1 := rfl
      have hLU : cL cStone (d ++ [(⟨w0, ((kk + cL cLabel u0 : Nat) : Int), ((kk + cL cLabel u0 + 1 : Nat) : Int)⟩ : Stone)]) = cL cStone d + (cL cLabel w0 + 1 + 1) := by rw [cL_snoc, hcU]
      have hHU : HL cStone hStone (d ++ [(⟨w0, ((kk + cL cLabel u0 : Nat) : Int), ((kk + cL cLabel u0 + 1 : Nat) : Int)⟩ : Stone)]) k := HL_snoc j3 (by rw [← j2]; exact ⟨(by show HL cLabel hLabel w0 (kk); exact hh0), (by show _ = ((kk + cL cLabel w0 : Nat) : Int); rw [hc0]), (by show _ = ((kk + cL cLabel w0 + 1 : Nat) : Int); rw [hc0])⟩)
      rw [List.append_cons] at S3
      have hNU : NStone (⟨w0, ((kk + cL cLabel u0 : Nat) : Int), ((kk + cL cLabel u0 + 1 : Nat) : Int)⟩ : Stone) := hm0
      refine ok_last fun K13 h13 => ok_region rfl (q_mv _ rfl (q_add rfl rfl (by show -9223372036854775808 ≤ ((d.length : Nat) : Int) + 1 ∧ ((d.length : Nat) : Int) + 1 ≤ 9223372036854775807; omega) (q_as _ rfl (run_nil (h13 _ (⟨(d ++ [(⟨w0, ((kk + cL cLabel u0 : Nat) : Int), ((kk + cL cLabel u0 + 1 : Nat) : Int)⟩ : Stone)], rest, _, kk + cL cLabel u0 + 1 + 1), by simp, ⟨S3, by show kk + cL cLabel u0 + 1 + 1 = _; rw [hLU]; omega, hHU, by show cL cStone (d ++ [(⟨w0, ((kk + cL cLabel u0 : Nat) : Int), ((kk + cL cLabel u0 + 1 : Nat) : Int)⟩ : Stone)]) + cL _ rest = _; rw [hLU]; omega, by show (d ++ [_]).length + rest.length = _; rw [List.length_append, List.length_singleton]; omega, fun z hz => (List.mem_append.1 hz).elim (j6 z) (fun h => by rw [List.mem_singleton] at h; subst h; exact hNU), fun z hz => j7 z (List.mem_cons_of_mem _ hz)⟩, le_sub ⟨rfl, rfl, (congrArg (fun n : Int => some (LV.sv (int n))) (show ((d.length : Nat) : Int) + 1 = ((d ++ [(⟨w0, ((kk + cL cLabel u0 : Nat) : Int), ((kk + cL cLabel u0 + 1 : Nat) : Int)⟩ : Stone)]).length : Nat) from by simp)), trivial⟩ ⟨rfl, trivial⟩⟩))))))
    · have hi : ¬ d.length < rs.length := by simpa using c6
      have hrest : rest = [] := by cases rest with | nil => rfl | cons u t => simp at hsl; omega
      subst hrest
      rw [List.append_nil] at S
      simp only [cL] at j4
      rw [List.length_nil] at j5
      have hkk : kk = k + cL cStone l := by omega
      refine ok_exit (h2 _ ?_)
      refine ok_seq fun K14 h14 => ok_region rfl (q_mv _ rfl (q_as _ rfl (run_nil (h14 _ ?_)))); clear h14 K14
      exact ok_ret ⟨_, rs, d.map eStone, rfl, rfl, by simpa using S.len, fun j r s hr hs => (by rw [List.getElem?_map] at hs; obtain ⟨x, hx, rfl⟩ := Option.map_eq_some_iff.1 hs; exact S.gd j r x hr hx), S.ap, S.zn, by rw [hkk], d, rfl, j3, by omega, ⟨by omega, j6⟩⟩
theorem f84_h (l : List Stone) (hs : l.length ≤ 1048576 ∧ ∀ y ∈ l, NStone y) (k : Nat) (h0 : 1 ≤ k) (hk : k + cL cStone l ≤ 1152921504606846976) (hh : HL cStone hStone l k) : PFn Tryz.prog 84 [eStoneS l, int k] (int ((k + cL cStone l : Nat) : Int)) := by
  refine fn_ok' (n := 40) Tryz.func84 rfl rfl rfl (Nat.le_of_ble_eq_true rfl) rfl fun w0 O => ?_
  refine ok_seq fun K1 h1 => ok_region rfl (q_as _ rfl (run_nil (h1 _ ?_))); clear h1 K1
  refine ok_seq fun K2 h2 => ?_
  refine ok_seq fun K3 h3 => ok_region rfl (q_as _ rfl (run_nil (h3 _ ?_))); clear h3 K3
  refine ok_block ?_
  refine ok_loop (fun (s : List Stone × List Stone × Nat) => ⟨[(0, .sv (eStoneS l)), (1, .sv (int (s.2.2 : Int))), (5, .sv (int (s.1.length : Int)))], []⟩) (fun s => l = s.1 ++ s.2.1 ∧ s.2.2 + cL cStone s.2.1 = k + cL cStone l ∧ HL cStone hStone s.2.1 s.2.2 ∧ k ≤ s.2.2) (fun s => s.2.1.length) ([], l, k) ⟨rfl, rfl, hh, Nat.le_refl _⟩ (le_same ⟨rfl, rfl, rfl, trivial⟩) (fun s J => ?_)
  obtain ⟨d, rest, kk⟩ := s
  obtain ⟨j1, j2, j3, j4⟩ := J
  simp only at j1 j2 j3 j4
  have hll : l.length ≤ 1048576 := hs.1
  have hdl : l.length = d.length + rest.length := by rw [j1, List.length_append]
  refine ok_seq fun K4 h4 => ?_
  refine ok_seq fun K5 h5 => ok_region rfl (q_mv _ rfl (q_mv _ rfl (q_len eS32 rfl (q_bin _ _ _ rfl rfl rfl (run_nil (h5 _ ?_)))))); clear h5 K5
  rw [List.length_map]
  refine ok_cond rfl (fun c6 => ?_) (fun c6 => ?_)
  · have hi : d.length < l.length := by simpa using c6
    obtain ⟨u, rest, rfl⟩ : ∃ u t, rest = u :: t := by cases rest with | nil => simp at hdl; omega | cons u t => exact ⟨u, t, rfl⟩
    have hu : l[d.length]? = some u := by rw [j1, List.getElem?_append_right (Nat.le_refl _), Nat.sub_self]; rfl
    have hNu := hs.2 u (smem hu)
    obtain ⟨u0, u1, u2⟩ := u
    obtain ⟨hE, j3⟩ := j3
    obtain ⟨e0, e1, e2⟩ : HL cLabel hLabel u0 (kk) ∧ u1 = ((kk + cL cLabel u0 : Nat) : Int) ∧ u2 = ((kk + cL cLabel u0 + 1 : Nat) : Int) := hE
    subst e1
    subst e2
    have hc : cL cStone ((⟨u0, ((kk + cL cLabel u0 : Nat) : Int), ((kk + cL cLabel u0 + 1 : Nat) : Int)⟩ : Stone) :: rest) = (cL cLabel u0 + 1 + 1) + cL cStone rest := rfl
    rw [hc] at j2
    rw [List.length_cons] at hdl
    have hn0 : u0.length ≤ 1048576 := hNu
    refine ok_skip (h4 _ ?_)
    refine ok_seq fun K7 h7 => ?_
    refine ok_block ?_
    refine ok_seq fun K8 h8 => ?_
    refine ok_region rfl (q_mv _ rfl (q_mv _ rfl (q_ia el32 rfl rfl (by omega) (mget (f := eStone) hu) (q_fa _ fd103_0 rfl rfl (by decide) (q_ld _ ag80 rfl rfl (q_mv _ rfl (q_call (f74_h u0 hn0 (kk) (by omega) (by omega) e0) cl74 rfl rfl (q_as _ rfl (run_nil (h8 _ ?_))))))))))
    clear h8 K8
    refine ok_seq fun K9 h9 => ?_
    refine ok_seq fun K10 h10 => ok_region rfl (q_mv _ rfl (q_bin _ _ _ rfl rfl rfl (run_nil (h10 _ ?_)))); clear h10 K10
    refine ok_cond rfl (fun c11 => ?_) (fun c11 => ?_)
    · have := of_decide_eq_true c11; omega
    · refine ok_skip (h9 _ ?_)
      refine ok_seq fun K13 h13 => ?_
      refine ok_seq fun K14 h14 => ok_region rfl (q_mv _ rfl (q_mv _ rfl (q_ia el32 rfl rfl (by omega) (mget (f := eStone) hu) (q_fa _ fd103_1 rfl rfl (by decide) (q_ld _ ag3 rfl rfl (q_mv _ rfl (q_bin _ _ _ rfl rfl rfl (run_nil (h14 _ ?_))))))))); clear h14 K14
      refine ok_cond rfl (fun c15 => ?_) (fun c15 => ?_)
      · simp at c15
      · refine ok_skip (h13 _ ?_)
        refine ok_seq fun K17 h17 => ok_region rfl (q_mv _ rfl (q_add rfl rfl (by show -9223372036854775808 ≤ ((kk + cL cLabel u0 : Nat) : Int) + 1 ∧ ((kk + cL cLabel u0 : Nat) : Int) + 1 ≤ 9223372036854775807; omega) (q_as _ rfl (run_nil (h17 _ ?_))))); clear h17 K17
        refine ok_seq fun K18 h18 => ?_
        refine ok_seq fun K19 h19 => ok_region rfl (q_mv _ rfl (q_mv _ rfl (q_ia el32 rfl rfl (by omega) (mget (f := eStone) hu) (q_fa _ fd103_2 rfl rfl (by decide) (q_ld _ ag3 rfl rfl (q_mv _ rfl (q_bin _ _ _ rfl rfl rfl (run_nil (h19 _ ?_))))))))); clear h19 K19
        refine ok_cond rfl (fun c20 => ?_) (fun c20 => ?_)
        · simp at c20
        · refine ok_skip (h18 _ ?_)
          refine ok_last fun K22 h22 => ok_region rfl (q_mv _ rfl (q_add rfl rfl (by show -9223372036854775808 ≤ ((kk + cL cLabel u0 + 1 : Nat) : Int) + 1 ∧ ((kk + cL cLabel u0 + 1 : Nat) : Int) + 1 ≤ 9223372036854775807; omega) (q_as _ rfl (run_nil (h22 _ (h7 _ ?_))))))
          refine ok_last fun K23 h23 => ok_region rfl (q_mv _ rfl (q_add rfl rfl (by show -9223372036854775808 ≤ ((d.length : Nat) : Int) + 1 ∧ ((d.length : Nat) : Int) + 1 ≤ 9223372036854775807; omega) (q_as _ rfl (run_nil (h23 _ (⟨(d ++ [(⟨u0, ((kk + cL cLabel u0 : Nat) : Int), ((kk + cL cLabel u0 + 1 : Nat) : Int)⟩ : Stone)], rest, kk + cL cLabel u0 + 1 + 1), by simp, ⟨by show l = (d ++ [_]) ++ rest; rw [j1, List.append_cons], by show kk + cL cLabel u0 + 1 + 1 + cL cStone rest = _; omega, by have h9 := j3; rw [show kk + cStone (⟨u0, ((kk + cL cLabel u0 : Nat) : Int), ((kk + cL cLabel u0 + 1 : Nat) : Int)⟩ : Stone) = kk + cL cLabel u0 + 1 + 1 from by show kk + (cL cLabel u0 + 1 + 1) = _; omega] at h9; exact h9, by show k ≤ kk + cL cLabel u0 + 1 + 1; omega⟩, le_same ⟨rfl, rfl, (congrArg (fun n : Int => some (LV.sv (int n))) (show ((d.length : Nat) : Int) + 1 = ((d ++ [(⟨u0, ((kk + cL cLabel u0 : Nat) : Int), ((kk + cL cLabel u0 + 1 : Nat) : Int)⟩ : Stone)]).length : Nat) from by simp)), trivial⟩⟩))))))
  · have hi : ¬ d.length < l.length := by simpa using c6
    have hrest : rest = [] := by cases rest with | nil => rfl | cons u t => simp at hdl; omega
    subst hrest
    simp only [cL] at j2
    have hkk : kk = k + cL cStone l := by omega
    refine ok_exit (h2 _ ?_)
    refine ok_seq fun K24 h24 => ok_region rfl (q_mv _ rfl (q_as _ rfl (run_nil (h24 _ ?_)))); clear h24 K24
    subst hkk; exact ok_ret ⟨_, rfl, rfl⟩
theorem kc_StoneS (l : List Stone) : KC (cL cStone l) (zStoneS l) 0 := kc_sl kc_Stone l
theorem gi_Block {x : Block} {r : SV} (h : Gd r (eBlock x)) : ∃ (Z3 : Nat → Prop) (v3 : Value) (Z4 : Nat → Prop) (v4 : Value), r = .agg [int x.from_, int x.to, int x.level, .tr Z3 (eSeriesS x.series) v3, .tr Z4 (eStoneS x.stones) v4] ∧ (∀ b, Z3 b → ¬ Z4 b) := by
  obtain ⟨rs, rfl, g, a⟩ := gd_agg_inv h
  obtain ⟨r0, q0, rfl, g0, g⟩ := g.inv_cons
  obtain ⟨r1, q1, rfl, g1, g⟩ := g.inv_cons
  obtain ⟨r2, q2, rfl, g2, g⟩ := g.inv_cons
  obtain ⟨r3, q3, rfl, g3, g⟩ := g.inv_cons
  obtain ⟨r4, q4, rfl, g4, g⟩ := g.inv_cons
  obtain rfl := g.inv_nil
  obtain rfl := gd_raw_inv g0
  obtain rfl := gd_raw_inv g1
  obtain rfl := gd_raw_inv g2
  obtain ⟨Z3, v3, rfl⟩ := gd_sl_inv g3
  obtain ⟨Z4, v4, rfl⟩ := gd_sl_inv g4
  exact ⟨Z3, v3, Z4, v4, rfl, fun b h1 h2 => absurd (a.sep (i := 3) (j := 4) rfl rfl (.tr _ _ _ h1) (.tr _ _ _ h2)) (by decide)⟩
theorem gc_Block (x : Block) {Z3 : Nat → Prop} {v3 : Value} {Z4 : Nat → Prop} {v4 : Value} (d3_4 : ∀ b, Z3 b → ¬ Z4 b) : Gd (.agg [int x.from_, int x.to, int x.level, .tr Z3 (eSeriesS x.series) v3, .tr Z4 (eStoneS x.stones) v4]) (eBlock x) := gd_agg ⟨.raw _, .raw _, .raw _, .tr _ _ _ _, .tr _ _ _ _, trivial⟩ (AL_raw (AL_raw (AL_raw (AL_tr (fun b hb hb' => by simp only [znA_cons, znI_raw, znI_tr, znA_nil, or_false, false_or] at hb'; exact d3_4 b hb hb') (AL_tr (fun b hb hb' => by simp only [znA_cons, znI_raw, znI_tr, znA_nil, or_false, false_or] at hb') trivial)))))
def NBlock (x : Block) : Prop := (x.series.length ≤ 1048576 ∧ ∀ y ∈ x.series, NSeries y) ∧ (x.stones.length ≤ 1048576 ∧ ∀ y ∈ x.stones, NStone y)
theorem nBlock_of {x : Block} (h : SBlock x) : NBlock x := ⟨⟨(h.1).1, fun y hy => nSeries_of ((h.1).2 y hy)⟩, ⟨(h.2).1, fun y hy => nStone_of ((h.2).2 y hy)⟩⟩
def cBlock (x : Block) : Nat := 1 + 1 + 1 + cL cSeries x.series + cL cStone x.stones
def hBlock (x : Block) (k : Nat) : Prop := x.from_ = ((k : Nat) : Int) ∧ x.to = ((k + 1 : Nat) : Int) ∧ x.level = ((k + 1 + 1 : Nat) : Int) ∧ HL cSeries hSeries x.series (k + 1 + 1 + 1) ∧ HL cStone hStone x.stones (k + 1 + 1 + 1 + cL cSeries x.series)
theorem f14_t (x : Block) (hx : SBlock x) : PFnT Tryz.prog 14 [eBlock x] (eBlock x) := by
  refine fnp_ok (n := 22) Tryz.func14 rfl rfl rfl (Nat.le_of_ble_eq_true rfl) rfl fun w0 O => ?_
  refine ok_seq fun K1 h1 => ok_region rfl (q_boxs _ rfl (Nat.zero_lt_succ _) (q_alloc _ ze34 rfl rfl rfl rfl (run_nil (h1 _ ?_)))); clear h1 K1
  refine ok_seq fun K2 h2 => ok_region rfl (q_alloc _ ze34 rfl rfl rfl rfl (run_nil (h2 _ ?_))); clear h2 K2
  refine ok_seq fun K3 h3 => ok_region rfl (q_fa _ fd25_0 rfl rfl (by decide) (q_ld _ ag3 rfl rfl (q_fap fd34_0 rfl (by decide) (q_st _ sz3 rfl rfl (Nat.le_of_ble_eq_true rfl) rfl ⟨_, rfl, rfl⟩ rfl (run_nil (h3 _ ?_)))))); clear h3 K3
  refine ok_seq fun K4 h4 => ok_region rfl (q_fa _ fd25_1 rfl rfl (by decide) (q_ld _ ag3 rfl rfl (q_fap fd34_1 rfl (by decide) (q_st _ sz3 rfl rfl (Nat.le_of_ble_eq_true rfl) rfl ⟨_, rfl, rfl⟩ rfl (run_nil (h4 _ ?_)))))); clear h4 K4
  refine ok_seq fun K5 h5 => ok_region rfl (q_fa _ fd25_2 rfl rfl (by decide) (q_ld _ ag3 rfl rfl (q_fap fd34_2 rfl (by decide) (q_st _ sz3 rfl rfl (Nat.le_of_ble_eq_true rfl) rfl ⟨_, rfl, rfl⟩ rfl (run_nil (h5 _ ?_)))))); clear h5 K5
  refine ok_seq fun K6 h6 => ok_region rfl (q_fa _ fd25_3 rfl rfl (by decide) (q_ld _ ag22 rfl rfl (q_callr (f58_t x.series (hx.1)) cl58 rfl (fun r3 hr3 hz3 ha3 => ?_))))
  obtain ⟨Z3, v3, rfl⟩ := gd_sl_inv hr3
  refine q_fap fd34_3 rfl (by decide) (q_st _ sz31 rfl rfl (Nat.le_of_ble_eq_true rfl) rfl ⟨_, rfl, rfl⟩ rfl (run_nil (h6 _ ?_)))
  clear h6 K6
  refine ok_seq fun K7 h7 => ok_region rfl (q_fa _ fd25_4 rfl rfl (by decide) (q_ld _ ag23 rfl rfl (q_callr (f59_t x.stones (hx.2)) cl59 rfl (fun r4 hr4 hz4 ha4 => ?_))))
  obtain ⟨Z4, v4, rfl⟩ := gd_sl_inv hr4
  have d3_4 : ∀ b, Z3 b → ¬ Z4 b := fun b h1 h2 => ha4.1 15 _ b rfl (.tr Z3 _ v3 h1) (.tr Z4 _ v4 h2)
  refine q_fap fd34_4 rfl (by decide) (q_st _ sz32 rfl rfl (Nat.le_of_ble_eq_true rfl) rfl ⟨_, rfl, rfl⟩ rfl (run_nil (h7 _ ?_)))
  clear h7 K7
  refine ok_seq fun K8 h8 => ok_region rfl (q_ldbs ag34 rfl rfl sz34 rfl rfl (q_sts _ rfl rfl rfl sz34 (Nat.le_of_ble_eq_true rfl) rfl (run_nil (h8 _ ?_)))); clear h8 K8
  refine ok_ret ⟨[.agg [int x.from_, int x.to, int x.level, .tr Z3 (eSeriesS x.series) v3, .tr Z4 (eStoneS x.stones) v4]], ⟨_, _, res_cells (l := [int x.from_, int x.to, int x.level, .tr Z3 (eSeriesS x.series) v3, .tr Z4 (eStoneS x.stones) v4]) rfl rfl ag34 sz34 rfl, rfl, rfl⟩, gc_Block x d3_4, fun b hb => ?_⟩
  have hb : Zn b (.agg [int x.from_, int x.to, int x.level, .tr Z3 (eSeriesS x.series) v3, .tr Z4 (eStoneS x.stones) v4]) := hb
  simp only [znA_cons, znI_raw, znI_tr, znA_nil, or_false, false_or] at hb
  rcases hb with h | h
  · exact hz3 b (.tr Z3 _ v3 h)
  · exact hz4 b (.tr Z4 _ v4 h)
def cmBlock (x : Block) : Nat := cL cSeries x.series + cL cStone x.stones
def hmBlock (x : Block) (k : Nat) : Prop := HL cSeries hSeries x.series (k) ∧ HL cStone hStone x.stones (k + cL cSeries x.series)
theorem kc_Block (x : Block) : KC (cBlock x) (zBlock x) 16 := by
  have h : KC ((cL cSeries x.series + (cL cStone x.stones))) (zBlock x) 0 := (kc_stp (kc_SeriesS x.series) (kc_StoneS x.stones))
  have e : cBlock x = 1 + 1 + 1 + cL cSeries x.series + cL cStone x.stones := rfl
  exact h.mono (by rw [e]; omega)
def cMatcher (x : Matcher) : Nat := 1 + 1 + 1
def hMatcher (x : Matcher) (k : Nat) : Prop := x.name = markT (k) ∧ x.op_ = ((k + 1 : Nat) : Int) ∧ x.value = markT (k + 1 + 1)
theorem f34_t (x : List Block) (hx : x.length ≤ 1048576 ∧ ∀ y ∈ x, SBlock y) : PFnT Tryz.prog 34 [eBlockS x] (eBlockS x) := by
  have hle : x.length ≤ 1048576 := hx.1
  refine fnp_ok (n := 23) Tryz.func34 rfl rfl rfl (Nat.le_of_ble_eq_true rfl) rfl fun w0 O => ?_
  refine ok_seq fun K1 h1 => ok_region rfl (q_as _ rfl (run_nil (h1 _ ?_))); clear h1 K1
  refine ok_seq fun K2 h2 => ok_region rfl (q_mv _ rfl (q_len eS50 rfl (q_make _ (.agg [.raw (.int .i64 0), .raw (.int .i64 0), .raw (.int .i64 0), .raw (.slice none 0 0), .raw (.slice none 0 0)]) el53 (by decide) ze34 rfl by34 rfl rfl rfl rfl (.inl ⟨rfl, rfl, rfl⟩) (by rw [List.length_map]; exact Nat.le_trans hle (by decide)) (by rw [List.length_map]; omega) (q_ao _ rfl (run_nil (h2 _ ?_)))))); clear h2 K2
  rw [List.length_map]
  refine ok_seq fun K3 h3 => ?_
  refine ok_seq fun K4 h4 => ok_region rfl (q_as _ rfl (run_nil (h4 _ ?_))); clear h4 K4
  refine ok_block ?_
  refine ok_loop (fun (rs : List SV) => ⟨[(0, .sv (eBlockS x)), (3, .own 7), (4, .sv (int rs.length))], [(7, .row 5 34 (rs ++ List.replicate (x.length - rs.length) (.agg [.raw (.int .i64 0), .raw (.int .i64 0), .raw (.int .i64 0), .raw (.slice none 0 0), .raw (.slice none 0 0)])))]⟩) (fun rs => rs.length ≤ x.length ∧ Cps w0 rs ((x.take rs.length).map eBlock)) (fun rs => x.length - rs.length) [] ⟨Nat.zero_le _, Cps.nil w0⟩ (le_sub ⟨rfl, rfl, rfl, trivial⟩ ⟨rfl, trivial⟩) (fun rs J => ?_)
  obtain ⟨j1, j2⟩ := J
  refine ok_seq fun K5 h5 => ?_
  refine ok_seq fun K6 h6 => ok_region rfl (q_mv _ rfl (q_mv _ rfl (q_len eS50 rfl (q_bin _ _ _ rfl rfl rfl (run_nil (h6 _ ?_)))))); clear h6 K6
  rw [List.length_map]
  refine ok_cond rfl (fun c7 => ?_) (fun c7 => ?_)
  · refine ok_skip (h5 _ ?_)
    have hk : rs.length < x.length := by simpa using c7
    obtain ⟨u, hu⟩ := sget hk
    refine ok_seq fun K8 h8 => ?_
    refine ok_block ?_
    refine ok_last fun K9 h9 => ok_region rfl (q_mo _ rfl (q_mv _ rfl (q_mv _ rfl (q_mv _ rfl (q_ia el50 rfl rfl (by omega) (mget (f := eBlock) hu) (q_lds _ ag25 rfl sz25 (q_callr (f14_t u (hx.2 u (smem hu))) cl14 rfl (fun r hr hz hap => ?_))))))))
    have hfresh := j2.snoc hr (fun y hy b hb => hap.2 7 5 34 _ y b rfl (List.mem_append_left _ hy) hb) hz
    rw [show (x.take rs.length).map eBlock ++ [eBlock u] = (x.take (rs ++ [r]).length).map eBlock by rw [List.length_append, List.length_cons, List.length_nil, List.take_add_one, hu, List.map_append]; rfl] at hfresh
    obtain ⟨Z3, v3, Z4, v4, rfl, d3_4⟩ := gi_Block hr
    refine q_iao el53 rfl rfl rfl (by omega) (by simp; omega) (q_ste sz34 rfl rfl (fillR_get hk) rfl (.inl ⟨_, rfl⟩) rfl (run_nil (h9 _ (h8 _ ?_))))
    refine ok_last fun K10 h10 => ok_region rfl (q_mv _ rfl (q_add rfl rfl (by omega) (q_as _ rfl (run_nil (h10 _ (⟨rs ++ [.agg [int u.from_, int u.to, int u.level, .tr Z3 (eSeriesS u.series) v3, .tr Z4 (eStoneS u.stones) v4]], by simp only [List.length_append, List.length_cons, List.length_nil]; omega, ⟨by simp only [List.length_append, List.length_cons, List.length_nil]; omega, hfresh⟩, ?_⟩))))))
    rw [← fillR_set hk]
    have e : ((rs ++ [(.agg [int u.from_, int u.to, int u.level, .tr Z3 (eSeriesS u.series) v3, .tr Z4 (eStoneS u.stones) v4] : SV)]).length : Int) = (rs.length : Int) + 1 := by simp
    rw [e]
    exact le_sub ⟨rfl, rfl, rfl, trivial⟩ ⟨rfl, trivial⟩
  · have hk : rs.length = x.length := by have : ¬ ((rs.length : Int) < x.length) := by simpa using c7
                                         omega
    have e : rs ++ List.replicate (x.length - rs.length) (.agg [.raw (.int .i64 0), .raw (.int .i64 0), .raw (.int .i64 0), .raw (.slice none 0 0), .raw (.slice none 0 0)]) = rs := by rw [hk, Nat.sub_self]; simp
    rw [hk, List.take_length] at j2
    rw [e]
    refine ok_exit (h3 _ ?_)
    refine ok_seq fun K11 h11 => ok_region rfl (q_mo _ rfl (q_ao _ rfl (run_nil (h11 _ ?_)))); clear h11 K11
    refine ok_treed (k := 7) (n := 5) (T := 34) (rs := rs) (ss := x.map eBlock) rfl j2.len j2.gd j2.ap (fun r hr b hb => .inl (j2.nw r hr b hb)) (fun Z v hZ => ?_)
    exact ok_ret ⟨_, ⟨_, _, rfl, rfl, rfl⟩, .tr Z 5 _ v, fun b hb => (hZ b (zn_tr hb)).elim id fun h => h.elim⟩
theorem f37_n (k : Int) : PFn Tryz.prog 37 [.sl 5 [], int k] (int k) := by
  refine fn_ok' (n := 48) Tryz.func37 rfl rfl rfl (Nat.le_of_ble_eq_true rfl) rfl fun w0 O => ?_
  refine ok_seq fun K1 h1 => ok_region rfl (q_as _ rfl (run_nil (h1 _ ?_))); clear h1 K1
  refine ok_seq fun K2 h2 => ?_
  refine ok_seq fun K3 h3 => ok_region rfl (q_as _ rfl (run_nil (h3 _ ?_))); clear h3 K3
  refine ok_block ?_
  refine ok_loop (fun (_ : Nat) => ⟨[(0, .sv (.sl 5 [])), (1, .sv (int k)), (5, .sv (int 0))], []⟩) (fun k => True) (fun k => 0) 0 trivial (le_same ⟨rfl, rfl, rfl, trivial⟩) (fun _ J => ?_)
  refine ok_seq fun K4 h4 => ?_
  refine ok_seq fun K5 h5 => ok_region rfl (q_mv _ rfl (q_mv _ rfl (q_len eS53 rfl (q_bin _ _ _ rfl rfl rfl (run_nil (h5 _ ?_)))))); clear h5 K5
  refine ok_cond rfl (fun c6 => ?_) (fun c6 => ?_)
  · simp at c6
  · refine ok_exit (h2 _ ?_)
    refine ok_seq fun K17 h17 => ok_region rfl (q_mv _ rfl (q_as _ rfl (run_nil (h17 _ ?_)))); clear h17 K17
    exact ok_ret ⟨_, rfl, rfl⟩
theorem f37_m (l : List Block) (hs : l.length ≤ 1048576 ∧ ∀ y ∈ l, NBlock y) (k : Nat) (h0 : 1 ≤ k) (hk : k + cL cBlock l ≤ 1152921504606846976) : MarkC Tryz.prog 37 (eBlockS l) k (fun k' s' => k' = ((k + cL cBlock l : Nat) : Int) ∧ ∃ l', s' = eBlockS l' ∧ HL cBlock hBlock l' k ∧ cL cBlock l' = cL cBlock l ∧ l'.length ≤ 1048576 ∧ ∀ y ∈ l', NBlock y) := by
  refine fnm_ok (t := 4) (n := 5) (l := l.map eBlock) Tryz.func37 rfl rfl rfl (by decide) (fun hn w v hr => ?_) (fun w0 Z v T rs hlen hpos hgd hap hzn => ?_)
  · have hl0 : l = [] := by simpa using hn
    subst hl0
    exact (hnil_of (f37_n k) w v hr).mono fun e w' ⟨he, hx⟩ => ⟨_, _, he, ⟨rfl, [], rfl, trivial, rfl, ⟨by simp, by simp⟩⟩, rfl, hx⟩
  · have S : ShG Z eBlock rs l := ⟨by simpa using hlen, hap, hzn, fun j r x hr hx => hgd j r _ hr (mget hx)⟩
    refine ok_seq fun K1 h1 => ok_region rfl (q_as _ rfl (run_nil (h1 _ ?_))); clear h1 K1
    refine ok_seq fun K2 h2 => ?_
    refine ok_seq fun K3 h3 => ok_region rfl (q_as _ rfl (run_nil (h3 _ ?_))); clear h3 K3
    refine ok_block ?_
    refine ok_loop (fun (s : List Block × List Block × List SV × Nat) => ⟨[(0, .own 0), (1, .sv (int (s.2.2.2 : Int))), (5, .sv (int (s.1.length : Int)))], [(0, .row 5 T s.2.2.1)]⟩) (fun s => ShG Z eBlock s.2.2.1 (s.1 ++ s.2.1) ∧ s.2.2.2 = k + cL cBlock s.1 ∧ HL cBlock hBlock s.1 k ∧ cL cBlock s.1 + cL cBlock s.2.1 = cL cBlock l ∧ s.1.length + s.2.1.length = l.length ∧ (∀ z ∈ s.1, NBlock z) ∧ ∀ z ∈ s.2.1, NBlock z) (fun s => s.2.1.length) ([], l, rs, k) ⟨S, rfl, trivial, by simp [cL], by simp, by simp, hs.2⟩ (le_sub ⟨rfl, rfl, rfl, trivial⟩ ⟨rfl, trivial⟩) (fun s J => ?_)
    clear S hlen hgd hap hzn
    obtain ⟨d, rest, rs, kk⟩ := s
    obtain ⟨S, j2, j3, j4, j5, j6, j7⟩ := J
    simp only at S j2 j3 j4 j5 j6 j7
    have hll : l.length ≤ 1048576 := hs.1
    have hsl := S.len
    rw [List.length_append] at hsl
    refine ok_seq fun K4 h4 => ?_
    refine ok_seq fun K5 h5 => ok_region rfl (q_mv _ rfl (q_mo _ rfl (q_leno eS53 rfl rfl (q_bin _ _ _ rfl rfl rfl (run_nil (h5 _ ?_)))))); clear h5 K5
    refine ok_cond rfl (fun c6 => ?_) (fun c6 => ?_)
    · have hi : d.length < rs.length := by simpa using c6
      obtain ⟨u, rest, rfl⟩ : ∃ u t, rest = u :: t := by cases rest with | nil => simp at hsl; omega | cons u t => exact ⟨u, t, rfl⟩
      obtain ⟨r, hr0, hg⟩ := S.here
      obtain ⟨u0, u1, u2, u3, u4⟩ := u
      obtain ⟨Z3, v3, Z4, v4, rfl, d3_4⟩ := gi_Block hg
      have hc : cL cBlock ((⟨u0, u1, u2, u3, u4⟩ : Block) :: rest) = (1 + 1 + 1 + cL cSeries u3 + cL cStone u4) + cL cBlock rest := rfl
      rw [hc] at j4
      rw [List.length_cons] at j5
      have hNu := j7 _ (List.mem_cons_self ..)
      obtain ⟨hn3, hn4⟩ : (u3.length ≤ 1048576 ∧ ∀ y ∈ u3, NSeries y) ∧ (u4.length ≤ 1048576 ∧ ∀ y ∈ u4, NStone y) := hNu
      refine ok_skip (h4 _ ?_)
      refine ok_seq fun K7 h7 => ?_
      refine ok_block ?_
      refine ok_seq fun K8 h8 => ok_region rfl (q_mo _ rfl (q_mv _ rfl (q_mv _ rfl (q_iao el53 rfl rfl rfl (by omega) (slt hr0) (q_fae fd34_0 rfl (by decide) (q_stef sz3 rfl rfl hr0 (by simp) rfl rfl rfl (run_nil (h8 _ ?_)))))))); clear h8 K8
      have S1 := S.set (u' := (⟨((kk : Nat) : Int), u1, u2, u3, u4⟩ : Block)) hr0 (r' := .agg [int (((kk : Nat) : Int)), int u1, int u2, .tr Z3 (eSeriesS u3) v3, .tr Z4 (eStoneS u4) v4]) (gc_Block (⟨((kk : Nat) : Int), u1, u2, u3, u4⟩ : Block) d3_4) (fun b hb => by simp only [znA_cons, znI_raw, znI_tr, znA_nil, or_false, false_or] at hb ⊢; exact hb)
      have hr1 := set_self_getG (x := (.agg [int (((kk : Nat) : Int)), int u1, int u2, .tr Z3 (eSeriesS u3) v3, .tr Z4 (eStoneS u4) v4] : SV)) hr0
      refine ok_seq fun K9 h9 => ok_region rfl (q_mv _ rfl (q_add rfl rfl (by show -9223372036854775808 ≤ ((kk : Nat) : Int) + 1 ∧ ((kk : Nat) : Int) + 1 ≤ 9223372036854775807; omega) (q_as _ rfl (run_nil (h9 _ ?_))))); clear h9 K9
      refine ok_seq fun K10 h10 => ok_region rfl (q_mo _ rfl (q_mv _ rfl (q_mv _ rfl (q_iao el53 rfl rfl rfl (by omega) (slt hr1) (q_fae fd34_1 rfl (by decide) (q_stef sz3 rfl rfl hr1 (by simp) rfl rfl rfl (run_nil (h10 _ ?_)))))))); clear h10 K10
      have S2 := S1.set (u' := (⟨((kk : Nat) : Int), ((kk + 1 : Nat) : Int), u2, u3, u4⟩ : Block)) hr1 (r' := .agg [int (((kk : Nat) : Int)), int (((kk + 1 : Nat) : Int)), int u2, .tr Z3 (eSeriesS u3) v3, .tr Z4 (eStoneS u4) v4]) (gc_Block (⟨((kk : Nat) : Int), ((kk + 1 : Nat) : Int), u2, u3, u4⟩ : Block) d3_4) (fun b hb => by simp only [znA_cons, znI_raw, znI_tr, znA_nil, or_false, false_or] at hb ⊢; exact hb)
      have hr2 := set_self_getG (x := (.agg [int (((kk : Nat) : Int)), int (((kk + 1 : Nat) : Int)), int u2, .tr Z3 (eSeriesS u3) v3, .tr Z4 (eStoneS u4) v4] : SV)) hr1
      refine ok_seq fun K11 h11 => ok_region rfl (q_mv _ rfl (q_add rfl rfl (by show -9223372036854775808 ≤ ((kk + 1 : Nat) : Int) + 1 ∧ ((kk + 1 : Nat) : Int) + 1 ≤ 9223372036854775807; omega) (q_as _ rfl (run_nil (h11 _ ?_))))); clear h11 K11
      refine ok_seq fun K12 h12 => ok_region rfl (q_mo _ rfl (q_mv _ rfl (q_mv _ rfl (q_iao el53 rfl rfl rfl (by omega) (slt hr2) (q_fae fd34_2 rfl (by decide) (q_stef sz3 rfl rfl hr2 (by simp) rfl rfl rfl (run_nil (h12 _ ?_)))))))); clear h12 K12
      have S3 := S2.set (u' := (⟨((kk : Nat) : Int), ((kk + 1 : Nat) : Int), ((kk + 1 + 1 : Nat) : Int), u3, u4⟩ : Block)) hr2 (r' := .agg [int (((kk : Nat) : Int)), int (((kk + 1 : Nat) : Int)), int (((kk + 1 + 1 : Nat) : Int)), .tr Z3 (eSeriesS u3) v3, .tr Z4 (eStoneS u4) v4]) (gc_Block (⟨((kk : Nat) : Int), ((kk + 1 : Nat) : Int), ((kk + 1 + 1 : Nat) : Int), u3, u4⟩ : Block) d3_4) (fun b hb => by simp only [znA_cons, znI_raw, znI_tr, znA_nil, or_false, false_or] at hb ⊢; exact hb)
      have hr3 := set_self_getG (x := (.agg [int (((kk : Nat) : Int)), int (((kk + 1 : Nat) : Int)), int (((kk + 1 + 1 : Nat) : Int)), .tr Z3 (eSeriesS u3) v3, .tr Z4 (eStoneS u4) v4] : SV)) hr2
      refine ok_seq fun K13 h13 => ok_region rfl (q_mv _ rfl (q_add rfl rfl (by show -9223372036854775808 ≤ ((kk + 1 + 1 : Nat) : Int) + 1 ∧ ((kk + 1 + 1 : Nat) : Int) + 1 ≤ 9223372036854775807; omega) (q_as _ rfl (run_nil (h13 _ ?_))))); clear h13 K13
      refine ok_seq fun K14 h14 => ?_
      refine ok_region rfl (q_mo _ rfl (q_mv _ rfl (q_iao el53 rfl rfl rfl (by omega) (slt hr3) (q_fae fd34_3 rfl (by decide) (q_ldef (.tr Z3 (eSeriesS u3) v3) ag31 rfl rfl hr3 rfl (q_mv _ rfl (q_mark (k := ((kk + 1 + 1 + 1 : Nat) : Int)) (f27_m u3 hn3 (kk + 1 + 1 + 1) (by omega) (by omega)) cl27 rfl rfl (fun b hb => .inr (S3.zn _ (smem hr3) b (.agg _ (.tr Z3 (eSeriesS u3) v3) (by simp) (.tr Z3 (eSeriesS u3) v3 hb)))) (fun _ => mkDT _) (fun s' => [(0, .row 5 T (_))]) (fun s' => mkDT_ok _) (fun s' => ⟨rfl, mk_rowG (r' := .agg [int (((kk : Nat) : Int)), int (((kk + 1 : Nat) : Int)), int (((kk + 1 + 1 : Nat) : Int)), .tr Z3 s' v3, .tr Z4 (eStoneS u4) v4]) S3 hr3 (fun b hb => (.agg _ (.tr Z3 (eSeriesS u3) v3) (by simp) (.tr Z3 (eSeriesS u3) v3 hb))) (mk_aggL ⟨.raw _, .raw _, .raw _, .same, .other _ _ _ (fun b hb hb' => d3_4 b hb' hb), trivial⟩), trivial⟩) (fun k' s' hR => ?_))))))))
      obtain ⟨rfl, w3, rfl, hh3, hc3, hm3⟩ := hR
      refine q_as _ rfl (run_nil (h14 _ ?_))
      have S4 := S3.set (u' := (⟨((kk : Nat) : Int), ((kk + 1 : Nat) : Int), ((kk + 1 + 1 : Nat) : Int), w3, u4⟩ : Block)) hr3 (r' := .agg [int (((kk : Nat) : Int)), int (((kk + 1 : Nat) : Int)), int (((kk + 1 + 1 : Nat) : Int)), .tr Z3 (eSeriesS w3) v3, .tr Z4 (eStoneS u4) v4]) (gc_Block (⟨((kk : Nat) : Int), ((kk + 1 : Nat) : Int), ((kk + 1 + 1 : Nat) : Int), w3, u4⟩ : Block) d3_4) (fun b hb => by simp only [znA_cons, znI_raw, znI_tr, znA_nil, or_false, false_or] at hb ⊢; exact hb)
      have hr4 := set_self_getG (x := (.agg [int (((kk : Nat) : Int)), int (((kk + 1 : Nat) : Int)), int (((kk + 1 + 1 : Nat) : Int)), .tr Z3 (eSeriesS w3) v3, .tr Z4 (eStoneS u4) v4] : SV)) hr3
      clear h14 K14
      refine ok_last fun K15 h15 => ok_region rfl (q_mo _ rfl (q_mv _ rfl (q_iao el53 rfl rfl rfl (by omega) (slt hr4) (q_fae fd34_4 rfl (by decide) (q_ldef (.tr Z4 (eStoneS u4) v4) ag32 rfl rfl hr4 rfl (q_mv _ rfl (q_mark (k := ((kk + 1 + 1 + 1 + cL cSeries u3 : Nat) : Int)) (f66_m u4 hn4 (kk + 1 + 1 + 1 + cL cSeries u3) (by omega) (by omega)) cl66 rfl rfl (fun b hb => .inr (S4.zn _ (smem hr4) b (.agg _ (.tr Z4 (eStoneS u4) v4) (by simp) (.tr Z4 (eStoneS u4) v4 hb)))) (fun _ => mkDT _) (fun s' => [(0, .row 5 T (_))]) (fun s' => mkDT_ok _) (fun s' => ⟨rfl, mk_rowG (r' := .agg [int (((kk : Nat) : Int)), int (((kk + 1 : Nat) : Int)), int (((kk + 1 + 1 : Nat) : Int)), .tr Z3 (eSeriesS w3) v3, .tr Z4 s' v4]) S4 hr4 (fun b hb => (.agg _ (.tr Z4 (eStoneS u4) v4) (by simp) (.tr Z4 (eStoneS u4) v4 hb))) (mk_aggL ⟨.raw _, .raw _, .raw _, .other _ _ _ (d3_4), .same, trivial⟩), trivial⟩) (fun k' s' hR => ?_))))))))
      obtain ⟨rfl, w4, rfl, hh4, hc4, hm4⟩ := hR
      refine q_as _ rfl (run_nil (h15 _ (h7 _ ?_)))
      have S5 := S4.set (u' := (⟨((kk : Nat) : Int), ((kk + 1 : Nat) : Int), ((kk + 1 + 1 : Nat) : Int), w3, w4⟩ : Block)) hr4 (r' := .agg [int (((kk : Nat) : Int)), int (((kk + 1 : Nat) : Int)), int (((kk + 1 + 1 : Nat) : Int)), .tr Z3 (eSeriesS w3) v3, .tr Z4 (eStoneS w4) v4]) (gc_Block (⟨((kk : Nat) : Int), ((kk + 1 : Nat) : Int), ((kk + 1 + 1 : Nat) : Int), w3, w4⟩ : Block) d3_4) (fun b hb => by simp only [znA_cons, znI_raw, znI_tr, znA_nil, or_false, false_or] at hb ⊢; exact hb)
      have hr5 := set_self_getG (x := (.agg [int (((kk : Nat) : Int)), int (((kk + 1 : Nat) : Int)), int (((kk + 1 + 1 : Nat) : Int)), .tr Z3 (eSeriesS w3) v3, .tr Z4 (eStoneS w4) v4] : SV)) hr4
      have hcU : cBlock (⟨((kk : Nat) : Int), ((kk + 1 : Nat) : Int), ((kk + 1 + 1 : Nat) : Int), w3, w4⟩ : Block) = 1 + 1 + 1 + cL cSeries w3 + cL cStone w4 := rfl
      have hLU : cL cBlock (d ++ [(⟨((kk : Nat) : Int), ((kk + 1 : Nat) : Int), ((kk + 1 + 1 : Nat) : Int), w3, w4⟩ : Block)]) = cL cBlock d + (1 + 1 + 1 + cL cSeries w3 + cL cStone w4) := by rw [cL_snoc, hcU]
      have hHU : HL cBlock hBlock (d ++ [(⟨((kk : Nat) : Int), ((kk + 1 : Nat) : Int), ((kk + 1 + 1 : Nat) : Int), w3, w4⟩ : Block)]) k := HL_snoc j3 (by rw [← j2]; exact ⟨rfl, rfl, rfl, (by show HL cSeries hSeries w3 (kk + 1 + 1 + 1); exact hh3), (by show HL cStone hStone w4 (kk + 1 + 1 + 1 + cL cSeries w3); rw [hc3]; exact hh4)⟩)
      rw [List.append_cons] at S5
      have hNU : NBlock (⟨((kk : Nat) : Int), ((kk + 1 : Nat) : Int), ((kk + 1 + 1 : Nat) : Int), w3, w4⟩ : Block) := ⟨hm3, hm4⟩
      refine ok_last fun K16 h16 => ok_region rfl (q_mv _ rfl (q_add rfl rfl (by show -9223372036854775808 ≤ ((d.length : Nat) : Int) + 1 ∧ ((d.length : Nat) : Int) + 1 ≤ 9223372036854775807; omega) (q_as _ rfl (run_nil (h16 _ (⟨(d ++ [(⟨((kk : Nat) : Int), ((kk + 1 : Nat) : Int), ((kk + 1 + 1 : Nat) : Int), w3, w4⟩ : Block)], rest, _, kk + 1 + 1 + 1 + cL cSeries u3 + cL cStone u4), by simp, ⟨S5, by show kk + 1 + 1 + 1 + cL cSeries u3 + cL cStone u4 = _; rw [hLU]; omega, hHU, by show cL cBlock (d ++ [(⟨((kk : Nat) : Int), ((kk + 1 : Nat) : Int), ((kk + 1 + 1 : Nat) : Int), w3, w4⟩ : Block)]) + cL _ rest = _; rw [hLU]; omega, by show (d ++ [_]).length + rest.length = _; rw [List.length_append, List.length_singleton]; omega, fun z hz => (List.mem_append.1 hz).elim (j6 z) (fun h => by rw [List.mem_singleton] at h; subst h; exact hNU), fun z hz => j7 z (List.mem_cons_of_mem _ hz)⟩, le_sub ⟨rfl, rfl, (congrArg (fun n : Int => some (LV.sv (int n))) (show ((d.length : Nat) : Int) + 1 = ((d ++ [(⟨((kk : Nat) : Int), ((kk + 1 : Nat) : Int), ((kk + 1 + 1 : Nat) : Int), w3, w4⟩ : Block)]).length : Nat) from by simp)), trivial⟩ ⟨rfl, trivial⟩⟩))))))
    · have hi : ¬ d.length < rs.length := by simpa using c6
      have hrest : rest = [] := by cases rest with | nil => rfl | cons u t => simp at hsl; omega
      subst hrest
      rw [List.append_nil] at S
      simp only [cL] at j4
      rw [List.length_nil] at j5
      have hkk : kk = k + cL cBlock l := by omega
      refine ok_exit (h2 _ ?_)
      refine ok_seq fun K17 h17 => ok_region rfl (q_mv _ rfl (q_as _ rfl (run_nil (h17 _ ?_)))); clear h17 K17
      exact ok_ret ⟨_, rs, d.map eBlock, rfl, rfl, by simpa using S.len, fun j r s hr hs => (by rw [List.getElem?_map] at hs; obtain ⟨x, hx, rfl⟩ := Option.map_eq_some_iff.1 hs; exact S.gd j r x hr hx), S.ap, S.zn, by rw [hkk], d, rfl, j3, by omega, ⟨by omega, j6⟩⟩
theorem f40_h (l : List Block) (hs : l.length ≤ 1048576 ∧ ∀ y ∈ l, NBlock y) (k : Nat) (h0 : 1 ≤ k) (hk : k + cL cBlock l ≤ 1152921504606846976) (hh : HL cBlock hBlock l k) : PFn Tryz.prog 40 [eBlockS l, int k] (int ((k + cL cBlock l : Nat) : Int)) := by
  refine fn_ok' (n := 58) Tryz.func40 rfl rfl rfl (Nat.le_of_ble_eq_true rfl) rfl fun w0 O => ?_
  refine ok_seq fun K1 h1 => ok_region rfl (q_as _ rfl (run_nil (h1 _ ?_))); clear h1 K1
  refine ok_seq fun K2 h2 => ?_
  refine ok_seq fun K3 h3 => ok_region rfl (q_as _ rfl (run_nil (h3 _ ?_))); clear h3 K3
  refine ok_block ?_
  refine ok_loop (fun (s : List Block × List Block × Nat) => ⟨[(0, .sv (eBlockS l)), (1, .sv (int (s.2.2 : Int))), (5, .sv (int (s.1.length : Int)))], []⟩) (fun s => l = s.1 ++ s.2.1 ∧ s.2.2 + cL cBlock s.2.1 = k + cL cBlock l ∧ HL cBlock hBlock s.2.1 s.2.2 ∧ k ≤ s.2.2) (fun s => s.2.1.length) ([], l, k) ⟨rfl, rfl, hh, Nat.le_refl _⟩ (le_same ⟨rfl, rfl, rfl, trivial⟩) (fun s J => ?_)
  obtain ⟨d, rest, kk⟩ := s
  obtain ⟨j1, j2, j3, j4⟩ := J
  simp only at j1 j2 j3 j4
  have hll : l.length ≤ 1048576 := hs.1
  have hdl : l.length = d.length + rest.length := by rw [j1, List.length_append]
  refine ok_seq fun K4 h4 => ?_
  refine ok_seq fun K5 h5 => ok_region rfl (q_mv _ rfl (q_mv _ rfl (q_len eS53 rfl (q_bin _ _ _ rfl rfl rfl (run_nil (h5 _ ?_)))))); clear h5 K5
  rw [List.length_map]
  refine ok_cond rfl (fun c6 => ?_) (fun c6 => ?_)
  · have hi : d.length < l.length := by simpa using c6
    obtain ⟨u, rest, rfl⟩ : ∃ u t, rest = u :: t := by cases rest with | nil => simp at hdl; omega | cons u t => exact ⟨u, t, rfl⟩
    have hu : l[d.length]? = some u := by rw [j1, List.getElem?_append_right (Nat.le_refl _), Nat.sub_self]; rfl
    have hNu := hs.2 u (smem hu)
    obtain ⟨u0, u1, u2, u3, u4⟩ := u
    obtain ⟨hE, j3⟩ := j3
    obtain ⟨e0, e1, e2, e3, e4⟩ : u0 = ((kk : Nat) : Int) ∧ u1 = ((kk + 1 : Nat) : Int) ∧ u2 = ((kk + 1 + 1 : Nat) : Int) ∧ HL cSeries hSeries u3 (kk + 1 + 1 + 1) ∧ HL cStone hStone u4 (kk + 1 + 1 + 1 + cL cSeries u3) := hE
    subst e0
    subst e1
    subst e2
    have hc : cL cBlock ((⟨((kk : Nat) : Int), ((kk + 1 : Nat) : Int), ((kk + 1 + 1 : Nat) : Int), u3, u4⟩ : Block) :: rest) = (1 + 1 + 1 + cL cSeries u3 + cL cStone u4) + cL cBlock rest := rfl
    rw [hc] at j2
    rw [List.length_cons] at hdl
    obtain ⟨hn3, hn4⟩ : (u3.length ≤ 1048576 ∧ ∀ y ∈ u3, NSeries y) ∧ (u4.length ≤ 1048576 ∧ ∀ y ∈ u4, NStone y) := hNu
    refine ok_skip (h4 _ ?_)
    refine ok_seq fun K7 h7 => ?_
    refine ok_block ?_
    refine ok_seq fun K8 h8 => ?_
    refine ok_seq fun K9 h9 => ok_region rfl (q_mv _ rfl (q_mv _ rfl (q_ia el53 rfl rfl (by omega) (mget (f := eBlock) hu) (q_fa _ fd34_0 rfl rfl (by decide) (q_ld _ ag3 rfl rfl (q_mv _ rfl (q_bin _ _ _ rfl rfl rfl (run_nil (h9 _ ?_))))))))); clear h9 K9
    refine ok_cond rfl (fun c10 => ?_) (fun c10 => ?_)
    · simp at c10
    · refine ok_skip (h8 _ ?_)
      refine ok_seq fun K12 h12 => ok_region rfl (q_mv _ rfl (q_add rfl rfl (by show -9223372036854775808 ≤ ((kk : Nat) : Int) + 1 ∧ ((kk : Nat) : Int) + 1 ≤ 9223372036854775807; omega) (q_as _ rfl (run_nil (h12 _ ?_))))); clear h12 K12
      refine ok_seq fun K13 h13 => ?_
      refine ok_seq fun K14 h14 => ok_region rfl (q_mv _ rfl (q_mv _ rfl (q_ia el53 rfl rfl (by omega) (mget (f := eBlock) hu) (q_fa _ fd34_1 rfl rfl (by decide) (q_ld _ ag3 rfl rfl (q_mv _ rfl (q_bin _ _ _ rfl rfl rfl (run_nil (h14 _ ?_))))))))); clear h14 K14
      refine ok_cond rfl (fun c15 => ?_) (fun c15 => ?_)
      · simp at c15
      · refine ok_skip (h13 _ ?_)
        refine ok_seq fun K17 h17 => ok_region rfl (q_mv _ rfl (q_add rfl rfl (by show -9223372036854775808 ≤ ((kk + 1 : Nat) : Int) + 1 ∧ ((kk + 1 : Nat) : Int) + 1 ≤ 9223372036854775807; omega) (q_as _ rfl (run_nil (h17 _ ?_))))); clear h17 K17
        refine ok_seq fun K18 h18 => ?_
        refine ok_seq fun K19 h19 => ok_region rfl (q_mv _ rfl (q_mv _ rfl (q_ia el53 rfl rfl (by omega) (mget (f := eBlock) hu) (q_fa _ fd34_2 rfl rfl (by decide) (q_ld _ ag3 rfl rfl (q_mv _ rfl (q_bin _ _ _ rfl rfl rfl (run_nil (h19 _ ?_))))))))); clear h19 K19
        refine ok_cond rfl (fun c20 => ?_) (fun c20 => ?_)
        · simp at c20
        · refine ok_skip (h18 _ ?_)
          refine ok_seq fun K22 h22 => ok_region rfl (q_mv _ rfl (q_add rfl rfl (by show -9223372036854775808 ≤ ((kk + 1 + 1 : Nat) : Int) + 1 ∧ ((kk + 1 + 1 : Nat) : Int) + 1 ≤ 9223372036854775807; omega) (q_as _ rfl (run_nil (h22 _ ?_))))); clear h22 K22
          refine ok_seq fun K23 h23 => ?_
          refine ok_region rfl (q_mv _ rfl (q_mv _ rfl (q_ia el53 rfl rfl (by omega) (mget (f := eBlock) hu) (q_fa _ fd34_3 rfl rfl (by decide) (q_ld _ ag31 rfl rfl (q_mv _ rfl (q_call (f28_h u3 hn3 (kk + 1 + 1 + 1) (by omega) (by omega) e3) cl28 rfl rfl (q_as _ rfl (run_nil (h23 _ ?_))))))))))
          clear h23 K23
          refine ok_seq fun K24 h24 => ?_
          refine ok_seq fun K25 h25 => ok_region rfl (q_mv _ rfl (q_bin _ _ _ rfl rfl rfl (run_nil (h25 _ ?_)))); clear h25 K25
          refine ok_cond rfl (fun c26 => ?_) (fun c26 => ?_)
          · have := of_decide_eq_true c26; omega
          · refine ok_skip (h24 _ ?_)
            refine ok_seq fun K28 h28 => ?_
            refine ok_region rfl (q_mv _ rfl (q_mv _ rfl (q_ia el53 rfl rfl (by omega) (mget (f := eBlock) hu) (q_fa _ fd34_4 rfl rfl (by decide) (q_ld _ ag32 rfl rfl (q_mv _ rfl (q_call (f84_h u4 hn4 (kk + 1 + 1 + 1 + cL cSeries u3) (by omega) (by omega) e4) cl84 rfl rfl (q_as _ rfl (run_nil (h28 _ ?_))))))))))
            clear h28 K28
            refine ok_seq fun K29 h29 => ok_region rfl (q_mv _ rfl (q_bin _ _ _ rfl rfl rfl (run_nil (h29 _ ?_)))); clear h29 K29
            refine ok_cond rfl (fun c30 => ?_) (fun c30 => ?_)
            · have := of_decide_eq_true c30; omega
            · refine ok_skip (h7 _ ?_)
              refine ok_last fun K32 h32 => ok_region rfl (q_mv _ rfl (q_add rfl rfl (by show -9223372036854775808 ≤ ((d.length : Nat) : Int) + 1 ∧ ((d.length : Nat) : Int) + 1 ≤ 9223372036854775807; omega) (q_as _ rfl (run_nil (h32 _ (⟨(d ++ [(⟨((kk : Nat) : Int), ((kk + 1 : Nat) : Int), ((kk + 1 + 1 : Nat) : Int), u3, u4⟩ : Block)], rest, kk + 1 + 1 + 1 + cL cSeries u3 + cL cStone u4), by simp, ⟨by show l = (d ++ [_]) ++ rest; rw [j1, List.append_cons], by show kk + 1 + 1 + 1 + cL cSeries u3 + cL cStone u4 + cL cBlock rest = _; omega, by have h9 := j3; rw [show kk + cBlock (⟨((kk : Nat) : Int), ((kk + 1 : Nat) : Int), ((kk + 1 + 1 : Nat) : Int), u3, u4⟩ : Block) = kk + 1 + 1 + 1 + cL cSeries u3 + cL cStone u4 from by show kk + (1 + 1 + 1 + cL cSeries u3 + cL cStone u4) = _; omega] at h9; exact h9, by show k ≤ kk + 1 + 1 + 1 + cL cSeries u3 + cL cStone u4; omega⟩, le_same ⟨rfl, rfl, (congrArg (fun n : Int => some (LV.sv (int n))) (show ((d.length : Nat) : Int) + 1 = ((d ++ [(⟨((kk : Nat) : Int), ((kk + 1 : Nat) : Int), ((kk + 1 + 1 : Nat) : Int), u3, u4⟩ : Block)]).length : Nat) from by simp)), trivial⟩⟩))))))
  · have hi : ¬ d.length < l.length := by simpa using c6
    have hrest : rest = [] := by cases rest with | nil => rfl | cons u t => simp at hdl; omega
    subst hrest
    simp only [cL] at j2
    have hkk : kk = k + cL cBlock l := by omega
    refine ok_exit (h2 _ ?_)
    refine ok_seq fun K33 h33 => ok_region rfl (q_mv _ rfl (q_as _ rfl (run_nil (h33 _ ?_)))); clear h33 K33
    subst hkk; exact ok_ret ⟨_, rfl, rfl⟩
theorem kc_BlockS (l : List Block) : KC (cL cBlock l) (zBlockS l) 0 := kc_sl kc_Block l
def NHead (x : Head) : Prop := x.series.length ≤ 1048576 ∧ ∀ y ∈ x.series, NSeries y
def cmHead (x : Head) : Nat := cL cSeries x.series
def hmHead (x : Head) (k : Nat) : Prop := HL cSeries hSeries x.series (k)
end Go.Ring
