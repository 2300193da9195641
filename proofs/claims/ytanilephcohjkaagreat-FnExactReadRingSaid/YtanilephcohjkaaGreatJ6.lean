/- Series joined: the reference. No condition beyond the sizes. -/
import Derived.Test.YtanilephcohjkaaGreatJ5
import Derived.Test.YtanilephcohjkaaGreatEg3
import Derived.KernelRfl
set_option maxRecDepth 100000
set_option linter.unusedVariables false
set_option linter.unusedSimpArgs false
namespace Go.Ring
open Go Go.RowKit Go.Eager Go.Abs Go.Proofs
@[reducible] def zSer : SV := .agg ([Value.slice none 0 0, Value.slice none 0 0].map .raw)
theorem bz125 : Tryz.prog.built 125 [] = some [Value.slice none 0 0, Value.slice none 0 0].toArray := by kernel_rfl
theorem built125a (p0 : Option Addr) (n0 c0 : Nat) : Tryz.prog.built 125 [(0, .slice p0 n0 c0)] = some #[.slice p0 n0 c0, .slice none 0 0] := by kernel_rfl
theorem bz125a (x : List Label) {Z0 : Nat → Prop} {v0 : Value} : BLz Tryz.prog 125 [.tr Z0 (eLabelS x) v0] [.slice none 0 0] := by
  intro vs hv
  match vs, hv with
  | [w0], hv =>
    obtain ⟨h0, -⟩ := hv
    obtain ⟨rfl, p0, n0, c0, e0⟩ := h0
    rw [e0]
    exact built125a p0 n0 c0
theorem set_insAt {α : Type} (l : List α) (i : Nat) (x y : α) (hi : i ≤ l.length) : (Go.Abs.insAt l i x).set i y = Go.Abs.insAt l i y := by
  refine List.ext_getElem? fun j => ?_
  rw [List.getElem?_set, insAt_get _ _ _ hi, insAt_get _ _ _ hi, insAt_len _ _ _ hi]
  by_cases h : i = j
  · subst h; rw [if_pos rfl, if_pos (by omega), if_neg (by omega), if_pos rfl]
  · rw [if_neg h, if_neg (fun e : j = i => h e.symm), if_neg (fun e : j = i => h e.symm)]
theorem f126_t (a b : List Series) (na : Nice a) (nb : Nice b) (hw : wt a + wt b ≤ 1048576) : PFnT Tryz.prog 126 [eSeriesS a, eSeriesS b] (eSeriesS (jn a b)) := by
  refine fnp_ok (n := 60) Tryz.func126 rfl rfl rfl (Nat.le_of_ble_eq_true rfl) rfl fun w0 O => ?_
  have hbl := wt_len b
  have ha := na.b
  have hb := nb.b
  refine ok_seq fun K1 h1 => ok_region rfl (q_as _ rfl (run_nil (h1 _ ?_))); clear h1 K1
  refine ok_seq fun K2 h2 => ok_region rfl (q_mv _ rfl (q_callot (f124_o a (lb_ss ha (by omega))) cl124 ⟨.inl rfl, trivial⟩ rfl rfl (fun rs0 hC0 hA0 => q_ao _ rfl (run_nil (h2 _ ?_))))); clear h2 K2
  refine ok_seq fun K3 h3 => ?_
  refine ok_seq fun K4 h4 => ok_region rfl (q_mv _ rfl (q_len eS63 rfl (q_mv _ rfl (run_nil (h4 _ ?_))))); clear h4 K4
  rw [List.length_map]
  refine ok_block ?_
  refine ok_loop (fun (s : Nat × List SV) => ⟨[(5, .own 5), (12, .sv (eSeriesS b)), (13, .sv (int b.length)), (14, .sv (int s.1))], [(5, .row 2 125 s.2)]⟩) (fun s => Cps w0 s.2 ((jn a (b.take s.1)).map eSeries)) (fun s => b.length - s.1) (0, rs0) hC0 (le_rek 5 11 ⟨rfl, rfl, rfl, rfl, trivial⟩ ⟨rfl, trivial⟩ rfl rfl rfl rfl ⟨rfl, trivial⟩) (fun s J => ?_)
  obtain ⟨k, rs⟩ := s
  simp only at J
  refine ok_seq fun K5 h5 => ok_region rfl (q_bin _ _ _ rfl rfl rfl (run_nil (h5 _ ?_))); clear h5 K5
  refine ok_seq fun K6 h6 => ?_
  refine ok_cond rfl (fun c7 => ?_) (fun c7 => ?_)
  · refine ok_skip (h6 _ ?_)
    have hk : k < b.length := by simpa using c7
    obtain ⟨u, hu⟩ := sget hk
    obtain ⟨n1, i3⟩ := accJ_inv na nb hw hu
    have nu := hb u (smem hu)
    have hst := jn_step (a := a) hu
    have hsu := nb.m u (smem hu)
    generalize hacc : jn a (b.take k) = acc at *
    have i1 := srtL_iff.1 n1.s
    have i2 := n1.b
    have hss := lb_ss i2 (by omega)
    have hwl := wt_len acc
    have hus : u.samples.length ≤ 1048576 := by omega
    have hrl : rs.length = acc.length := by rw [J.len, List.length_map]
    have hp := lowI_le u.labels acc
    refine ok_seq_join (fun (rs' : List SV) => ⟨[(5, .own 5), (12, .sv (eSeriesS b)), (13, .sv (int b.length)), (14, .sv (int k))], [(5, .row 2 125 rs')]⟩) (fun rs' => Cps w0 rs' ((insJ acc u).map eSeries)) ?_ (fun rs' J => ?_)
    · refine ok_block ?_
      refine ok_seq fun K8 h8 => ok_region rfl (q_ia el63 rfl rfl (by omega) (mget (f := eSeries) hu) (q_lds _ ag125 rfl sz125 (q_alloc _ ze125 rfl rfl rfl rfl (q_sts _ rfl rfl rfl sz125 (Nat.le_of_ble_eq_true rfl) rfl (run_nil (h8 _ ?_)))))); clear h8 K8
      refine ok_seq fun K9 h9 => ?_
      refine ok_region rfl (q_mo _ rfl (q_fap fd125_0 rfl (by decide) (q_ldb (.sv (eLabelS u.labels)) ag78 rfl rfl rfl (q_call (PFn.row1 (rs := rs) (f117_ok acc hss u.labels nu) J.len J.gd) cl117 rfl rfl (q_mv _ rfl (q_ext _ rfl rfl (q_ext _ rfl rfl (q_as _ rfl (
        q_as _ rfl (run_nil (h9 _ ?_)))))))))))
      clear h9 K9
      refine ok_seq_join (fun (s : List SV × List Series) => ⟨[(5, .own 5), (7, .ptr 7 0), (8, .sv (int (lowI u.labels acc))), (12, .sv (eSeriesS b)), (13, .sv (int b.length)), (14, .sv (int k))], [(5, .row 2 125 s.1), (7, .box [.sv (eLabelS u.labels), .sv (eSampleS u.samples)])]⟩)
        (fun s => Cps w0 s.1 (s.2.map eSeries) ∧ ∃ x, s.2[lowI u.labels acc]? = some x ∧ SrtS x.samples ∧ x.samples.length + u.samples.length ≤ 1048576 ∧ s.2.length ≤ 1048577 ∧ insJ acc u = s.2.set (lowI u.labels acc) ⟨x.labels, grM x.samples u.samples⟩) ?_ (fun s Js => ?_)
      · refine ok_seq fun K11 h11 => ok_region rfl (q_mv _ rfl (q_un _ _ rfl rfl (run_nil (h11 _ ?_)))); clear h11 K11
        refine ok_cond rfl (fun c11 => ?_) (fun c11 => ?_)
        · have c11' : fnd u.labels acc = false := by simpa using c11
          have hnew := insJ_new c11'
          refine ok_seq fun K14 h14 => ?_
          refine ok_region rfl (q_mo _ rfl (q_bldr [] [.slice none 0 0, .slice none 0 0] rfl bz125 rfl (q_lit1 _ zSer el63 ze125 (by decide) (by decide) rfl (.inl ⟨_, rfl⟩) rfl (q_app (q := [zSer]) _ el63 ze125 rfl by125 rfl rfl rfl rfl rfl (by simp) (by intro s hs; simp at hs; subst hs; exact .inl ⟨_, rfl⟩) (by show rs.length + 1 ≤ maxLen; unfold maxLen; omega) (by show (rs.length + 1) * 48 ≤ _; omega) (
            q_ao _ rfl (run_nil (h14 _ ?_)))))))
          clear h14 K14
          have hl1 : (rs ++ [zSer]).length = rs.length + 1 := by simp
          refine ok_seq fun K15 h15 => ?_
          refine ok_region_i (by kernel_rfl) (by kernel_rfl) rfl (
            q_mo _ rfl (q_mv _ rfl (q_add rfl rfl (by omega) (q_slo el63 rfl rfl (by show 0 < (rs ++ [zSer]).length; omega) rfl (by omega) (by show ((lowI u.labels acc : Nat) : Int) + 1 ≤ ((rs ++ [zSer]).length : Int); omega) (q_mo _ rfl (q_mv _ rfl (
            q_slo el63 rfl rfl (by show 0 < (rs ++ [zSer]).length; omega) rfl (by omega) (by show ((lowI u.labels acc : Nat) : Int) ≤ ((rs ++ [zSer]).length : Int); omega) (q_copyn el63 rfl rfl rfl (by show lowI u.labels acc + 1 ≤ (rs ++ [zSer]).length; omega) (by show lowI u.labels acc ≤ (rs ++ [zSer]).length; omega) (fun q hq => by
              rcases List.mem_append.1 hq with h | h
              · exact cps_agg J q h
              · simp at h; subst h; exact .inl ⟨_, rfl⟩) (run_nil (h15 _ ?_))))))))))
          clear h15 K15
          have hl2 : (cpy (rs ++ [zSer]) (lowI u.labels acc + 1) (lowI u.labels acc)).length = rs.length + 1 := by rw [cpy_len _ _ _ (by omega), hl1]
          obtain ⟨old, hold⟩ := sget (l := cpy (rs ++ [zSer]) (lowI u.labels acc + 1) (lowI u.labels acc)) (i := lowI u.labels acc) (by omega)
          refine ok_last fun K16 h16 => ok_region rfl (
            q_mo _ rfl (q_mv _ rfl (q_fap fd125_0 rfl (by decide) (q_ldb (.sv (eLabelS u.labels)) ag78 rfl rfl rfl (q_callr (f153_t u.labels nu.1) cl153 rfl (fun r0 hr0 hz0 ha0 => ?_))))))
          obtain ⟨Z0, v0, rfl⟩ := gd_sl_inv hr0
          have hn : ∀ b, Zn b (.agg [.tr Z0 (eLabelS u.labels) v0, .tr (fun _ => False) (eSampleS []) (.slice none 0 0)]) → w0.heap.size ≤ b := fun b hb => by
            simp only [znA_cons, znI_raw, znI_tr, znA_nil, or_false, false_or] at hb
            exact hz0 b (.tr Z0 _ v0 hb)
          have hmem : ∀ y ∈ rs, y ∈ cpy (rs ++ [zSer]) (lowI u.labels acc + 1) (lowI u.labels acc) := fun y hy => by
            obtain ⟨j, hj⟩ := List.getElem?_of_mem hy
            have hjl := slt hj
            have hm : (((rs ++ [zSer]).drop (lowI u.labels acc)).take ((rs ++ [zSer]).length - (lowI u.labels acc + 1))).length = rs.length - lowI u.labels acc := by rw [List.length_take, List.length_drop, hl1]; omega
            by_cases h1 : j < lowI u.labels acc
            · refine List.mem_of_getElem? (i := j) ?_
              rw [cpy_get _ _ _ (by omega), if_neg (by omega), List.getElem?_append_left hjl]; exact hj
            · refine List.mem_of_getElem? (i := j + 1) ?_
              rw [cpy_get _ _ _ (by omega), hm, if_pos ⟨by omega, by omega⟩, show lowI u.labels acc + (j + 1 - (lowI u.labels acc + 1)) = j by omega, List.getElem?_append_left hjl]; exact hj
          have hfin := J.insAt (i := lowI u.labels acc) (by omega) (gc_Series ⟨u.labels, []⟩ (v0 := v0) (Z1 := fun _ => False) (v1 := .slice none 0 0) fun b _ h => h) (fun y hy b hb hb' => by
            simp only [znA_cons, znI_raw, znI_tr, znA_nil, or_false, false_or] at hb'
            exact ha0.2 30 2 125 _ y b rfl (hmem y hy) hb (.tr Z0 _ v0 hb')) hn
          rw [← insAt_map eSeries, ← cpy_ins rs (lowI u.labels acc) zSer _ (by omega)] at hfin
          refine (q_bldz [.tr Z0 (eLabelS u.labels) v0] [.tr (fun _ => False) (.sl 2 []) (.slice none 0 0)] (bz125a u.labels) ⟨nil_tr 2, trivial⟩ rfl rfl rfl (q_iao el63 rfl rfl rfl (by omega) (by show lowI u.labels acc < (cpy (rs ++ [zSer]) (lowI u.labels acc + 1) (lowI u.labels acc)).length; omega) (q_ste sz125 rfl rfl hold rfl (.inl ⟨_, rfl⟩) rfl (run_nil (h16 _ ⟨(_, Go.Abs.insAt acc (lowI u.labels acc) ⟨u.labels, []⟩), ⟨hfin, ⟨u.labels, []⟩, ?_, ?_, ?_, ?_, ?_⟩, le_rek 5 30 ⟨rfl, rfl, rfl, rfl, rfl, rfl, trivial⟩ ⟨rfl, rfl, trivial⟩ rfl rfl rfl rfl ⟨rfl, rfl, trivial⟩⟩)))))
          · show (Go.Abs.insAt acc (lowI u.labels acc) _)[lowI u.labels acc]? = _
            rw [insAt_get _ _ _ hp, if_neg (by omega), if_pos rfl]
          · exact List.Pairwise.nil
          · show ([] : List Sample).length + _ ≤ _; simp; omega
          · show (Go.Abs.insAt acc (lowI u.labels acc) _).length ≤ _; rw [insAt_len _ _ _ hp]; omega
          · show _ = (Go.Abs.insAt acc (lowI u.labels acc) _).set _ _
            rw [hnew, set_insAt _ _ _ _ hp, grM_nil hsu]
        · have c11' : fnd u.labels acc = true := by simpa using c11
          obtain ⟨x, hx, _⟩ := fnd_get c11'
          exact ok_skip ⟨(rs, acc), ⟨J, x, hx, n1.m x (smem hx), wt_mem2 (smem hx) i3, by show acc.length ≤ _; omega, insJ_fnd c11' hx⟩, le_sub ⟨rfl, rfl, rfl, rfl, rfl, rfl, trivial⟩ ⟨rfl, rfl, trivial⟩⟩
      · obtain ⟨rs2, acc2⟩ := s
        obtain ⟨J2, x, hx, hsx, hgl, hal, he⟩ := Js
        simp only at J2 hx he hal
        have hrl2 : rs2.length = acc2.length := by rw [J2.len, List.length_map]
        have hlt := slt hx
        obtain ⟨r, hr⟩ := sget (l := rs2) (i := lowI u.labels acc) (by omega)
        obtain ⟨Z0, v0, Z1, v1, rfl, d01⟩ := gi_Series (J2.gd _ r _ hr (mget (f := eSeries) hx))
        refine ok_last fun K12 h12 => ok_region_i (by kernel_rfl) (by kernel_rfl) rfl (
          q_mo _ rfl (q_mv _ rfl (q_mo _ rfl (q_mv _ rfl (q_iao el63 rfl rfl rfl (by omega) (by show lowI u.labels acc < rs2.length; omega) (q_fae fd125_1 rfl (by decide) (q_ldef (.tr Z1 (eSampleS x.samples) v1) ag123 rfl rfl hr rfl (q_fap fd125_1 rfl (by decide) (
          q_ldb (.sv (eSampleS u.samples)) ag123 rfl rfl rfl (q_callg [] (f152_t x.samples u.samples hgl hsx hsu) cl152 ⟨.inr (.inl ⟨_, rfl, .tr _ _ _ _⟩), .inl rfl, trivial⟩ (fun r3 hr3 hz3 ha3 => ?_)))))))))))
        obtain ⟨Z3, v3, rfl⟩ := gd_sl_inv hr3
        have hfin := cps_mg (q := grM x.samples u.samples) (v3 := v3) J2 hx hr (fun b h => hz3 b (.tr Z3 _ v3 h)) (fun y hy b hb hb' => ha3.2 5 2 125 _ y b rfl hy hb (.tr Z3 _ v3 hb'))
        rw [← he] at hfin
        refine q_iao el63 rfl rfl rfl (by omega) (by show lowI u.labels acc < rs2.length; omega) (q_fae fd125_1 rfl (by decide) (q_stef sz123 rfl rfl hr (by show 1 < 2; omega) rfl rfl rfl (run_nil (h12 _ ⟨_, hfin, le_sub ⟨rfl, rfl, rfl, rfl, trivial⟩ ⟨rfl, trivial⟩⟩))))
    · refine ok_last fun K17 h17 => ok_region rfl (
        q_add rfl rfl (by omega) (q_mv _ rfl (run_nil (h17 _ ⟨(k + 1, rs'), by simp only; omega, by simp only; rw [hst]; exact J, le_sub ⟨rfl, rfl, rfl, rfl, trivial⟩ ⟨rfl, trivial⟩⟩))))
  · rw [List.take_of_length_le (by have : ¬ ((k : Int) < b.length) := by simpa using c7
                                   omega)] at J
    refine ok_exit (h3 _ ?_)
    refine ok_seq fun K15 h15 => ok_region rfl (q_mo _ rfl (q_ao _ rfl (run_nil (h15 _ ?_)))); clear h15 K15
    refine ok_treed (k := 5) (n := 2) (T := 125) (rs := rs) (ss := (jn a b).map eSeries) rfl J.len J.gd J.ap (fun r hr b hb => .inl (J.nw r hr b hb)) (fun Z v hZ => ?_)
    exact ok_ret ⟨_, ⟨_, _, rfl, rfl, rfl⟩, .tr Z 2 _ v, fun b hb => (hZ b (zn_tr hb)).elim id fun h => h.elim⟩
end Go.Ring
