/- What is chosen of a block: the program; both say the same. No condition beyond the lengths. -/
import Derived.Test.YtanilephcohjkaaGreatB3
set_option maxRecDepth 100000
set_option linter.unusedVariables false
set_option linter.unusedSimpArgs false
namespace Go.Ring
open Go Go.RowKit Go.Eager Go.Abs Go.Proofs
/-- A copy of ours, told as its value. -/
theorem le_trv {Γ : Ctx} {t : List (Nat × LV)} {h : List (Nat × Ent)} {Z : Nat → Prop} {s : SV} {v : Value} (k : Nat) (hk : t.lookup k = some (.sv (.tr Z s v))) : Le Γ ⟨(k, .sv s) :: t, h⟩ ⟨t, h⟩ := by
  rintro a w ⟨ρ, I⟩
  refine ⟨ρ, I.dfr, I.size, I.frm, fun k' lv hk' => ?_, I.ent, I.new, I.sep, I.out, I.inn⟩
  rw [List.lookup_cons] at hk'
  cases hq : (k' == k) with
  | false => simp only [hq] at hk'; exact I.tmp k' lv hk'
  | true =>
    simp only [hq, Option.some.injEq] at hk'
    subst hk'
    obtain rfl : k' = k := by simpa using hq
    have h1 := I.tmp k' _ hk
    cases h1 with
    | tr _ _ _ hT hZ => exact hT.rep fun b hb => (hZ b hb).2
theorem le_nil {Γ : Ctx} {t : List (Nat × LV)} {h : List (Nat × Ent)} (n k : Nat) (hk : t.lookup k = some (.sv (.raw (.slice none 0 0)))) : Le Γ ⟨(k, .sv (.sl n [])) :: t, h⟩ ⟨t, h⟩ := by
  rintro a w ⟨ρ, I⟩
  refine ⟨ρ, I.dfr, I.size, I.frm, fun k' lv hk' => ?_, I.ent, I.new, I.sep, I.out, I.inn⟩
  rw [List.lookup_cons] at hk'
  cases hq : (k' == k) with
  | false => simp only [hq] at hk'; exact I.tmp k' lv hk'
  | true =>
    simp only [hq, Option.some.injEq] at hk'
    subst hk'
    obtain rfl : k' = k := by simpa using hq
    exact rep_nil0 (I.tmp k' _ hk)
theorem selG_fit {ms : List Matcher} {f t : Int} {u : Series} (h : matB ms u.labels = false) : selG ms f t u = none := by
  unfold selG; rw [if_neg (fun c => by rw [h] at c; exact absurd c.2 (by decide))]
theorem selG_some {ms : List Matcher} {f t : Int} {u : Series} (h : matB ms u.labels = true) (h2 : 0 < (cutF f t u.samples).length) : selG ms f t u = some ⟨u.labels, cutF f t u.samples⟩ := by
  unfold selG; rw [if_pos ⟨h2, h⟩]
theorem selG_cut {ms : List Matcher} {f t : Int} {u : Series} (h2 : ¬ 0 < (cutF f t u.samples).length) : selG ms f t u = none := by
  unfold selG; rw [if_neg (fun c => h2 c.1)]
theorem selL_take {ms : List Matcher} {f t : Int} {x : List Series} {k : Nat} {u : Series} (hu : x[k]? = some u) : selL ms f t (x.take (k + 1)) = selL ms f t (x.take k) ++ (selG ms f t u).toList := by
  unfold selL
  rw [List.take_add_one, hu, Option.toList_some, List.filterMap_append]
  rw [List.filterMap_cons]
  cases selG ms f t u <;> rfl
theorem f100_t (x : List Series) (hx : x.length ≤ 1048576 ∧ ∀ y ∈ x, SSeries y) (ms : List Matcher) (hms : ms.length ≤ 1048576) (hm : ∀ m ∈ ms, SMatcher m) (hv : ∀ y ∈ x, ∀ n, (valOf y.labels n).size ≤ 100) (f t : Int) : PFnT Tryz.prog 100 [eSeriesS x, eMatcherS ms, int f, int t] (eSeriesS (selL ms f t x)) := by
  have hle : x.length ≤ 1048576 := hx.1
  refine fnp_ok (n := 42) Tryz.func100 rfl rfl rfl (Nat.le_of_ble_eq_true rfl) rfl fun w0 O => ?_
  refine ok_seq fun K1 h1 => ok_region rfl (q_as _ rfl (run_nil (h1 _ ?_))); clear h1 K1
  refine ok_seq fun K2 h2 => ok_region rfl (q_an (n := 2) 125 (by decide) rfl rfl rfl (run_nil (h2 _ ?_))); clear h2 K2
  refine ok_seq fun K3 h3 => ?_
  refine ok_seq fun K4 h4 => ok_region rfl (q_mv _ rfl (q_len eS63 rfl (q_mv _ rfl (run_nil (h4 _ ?_))))); clear h4 K4
  rw [List.length_map]
  refine ok_block ?_
  refine ok_loop (fun (s : Nat × List SV) => ⟨[(1, .sv (eMatcherS ms)), (2, .sv (int f)), (3, .sv (int t)), (9, .own 9), (13, .sv (eSeriesS x)), (14, .sv (int x.length)), (15, .sv (int s.1))], [(9, .row 2 125 s.2)]⟩) (fun s => Cps w0 s.2 ((selL ms f t (x.take s.1)).map eSeries)) (fun s => x.length - s.1) (0, []) (Cps.nil w0) (le_sub ⟨rfl, rfl, rfl, rfl, rfl, rfl, rfl, trivial⟩ ⟨rfl, trivial⟩) (fun s J => ?_)
  obtain ⟨k, rs⟩ := s
  simp only at J
  have hrl : rs.length ≤ k := by
    rw [J.len, List.length_map]
    exact Nat.le_trans (fm_len _ _) (by rw [List.length_take]; omega)
  refine ok_seq fun K5 h5 => ok_region rfl (q_bin _ _ _ rfl rfl rfl (run_nil (h5 _ ?_))); clear h5 K5
  refine ok_seq fun K6 h6 => ?_
  refine ok_cond rfl (fun c7 => ?_) (fun c7 => ?_)
  · have hk : k < x.length := by simpa using c7
    obtain ⟨u, hu⟩ := sget hk
    have nu := hx.2 u (smem hu)
    have hd := selL_take (ms := ms) (f := f) (t := t) hu
    refine ok_skip (h6 _ ?_)
    refine ok_seq_join (fun (rs' : List SV) => ⟨[(1, .sv (eMatcherS ms)), (2, .sv (int f)), (3, .sv (int t)), (9, .own 9), (13, .sv (eSeriesS x)), (14, .sv (int x.length)), (15, .sv (int k))], [(9, .row 2 125 rs')]⟩) (fun rs' => Cps w0 rs' ((selL ms f t (x.take (k + 1))).map eSeries)) ?_ (fun rs' J => ?_)
    · refine ok_block ?_
      refine ok_seq fun K8 h8 => ok_region rfl (q_ia el63 rfl rfl (by omega) (mget (f := eSeries) hu) (q_lds _ ag125 rfl sz125 (q_alloc _ ze125 rfl rfl rfl rfl (q_sts _ rfl rfl rfl sz125 (Nat.le_of_ble_eq_true rfl) rfl (run_nil (h8 _ ?_)))))); clear h8 K8
      refine ok_seq fun K9 h9 => ?_
      refine ok_seq fun K10 h10 => ok_region rfl (q_mv _ rfl (q_fap fd125_0 rfl (by decide) (q_ldb (.sv (eLabelS u.labels)) ag78 rfl rfl rfl (q_call (f180_ok ms u.labels hms hm nu.1.1 (hv u (smem hu))) cl180 rfl rfl (q_un _ _ rfl rfl (run_nil (h10 _ ?_))))))); clear h10 K10
      refine ok_cond rfl (fun c11 => ?_) (fun c11 => ?_)
      · have hgg := selG_fit (ms := ms) (f := f) (t := t) (u := u) (by simpa using c11)
        rw [hgg, Option.toList_none, List.append_nil] at hd
        rw [← hd] at J
        exact ok_exit ⟨rs, J, le_sub ⟨rfl, rfl, rfl, rfl, rfl, rfl, rfl, trivial⟩ ⟨rfl, trivial⟩⟩
      · have hfit : matB ms u.labels = true := by simpa using c11
        refine ok_skip (h9 _ ?_)
        refine ok_seq fun K12 h12 => ok_region rfl (q_fap fd125_1 rfl (by decide) (q_ldb (.sv (eSampleS u.samples)) ag123 rfl rfl rfl (q_mv _ rfl (q_mv _ rfl (q_callr (f181_t u.samples nu.2 f t) cl181 rfl (fun r1 hr1 hz1 ha1 => ?_))))))
        obtain ⟨Z1, v1, rfl⟩ := gd_sl_inv hr1
        refine q_as _ rfl (run_nil (h12 _ ?_)); clear h12 K12
        refine ok_seq fun K13 h13 => ok_region rfl (q_mv _ rfl (run_le (le_trv 29 rfl) (q_len eS123 rfl (q_bin _ _ _ rfl rfl rfl (run_nil (h13 _ ?_)))))); clear h13 K13
        rw [List.length_map]
        refine ok_cond rfl (fun c14 => ?_) (fun c14 => ?_)
        · rw [selG_some hfit (by simpa using c14)] at hd
          refine ok_last fun K15 h15 => ok_region rfl (
            q_mo _ rfl (q_fap fd125_0 rfl (by decide) (q_ldb (.sv (eLabelS u.labels)) ag78 rfl rfl rfl (q_callr (f166_t u.labels nu.1.1) cl166 rfl (fun r0 hr0 hz0 ha0 => ?_)))))
          obtain ⟨Z0, v0, rfl⟩ := gd_sl_inv hr0
          have d01 : ∀ b, Z0 b → ¬ Z1 b := fun b h0 h1 => ha0.1 12 _ b rfl (.tr Z1 _ v1 h1) (.tr Z0 _ v0 h0)
          have hn : ∀ b, Zn b (.agg [.tr Z0 (eLabelS u.labels) v0, .tr Z1 (eSampleS (cutF f t u.samples)) v1]) → w0.heap.size ≤ b := fun b hb => by
            simp only [znA_cons, znI_raw, znI_tr, znA_nil, or_false, false_or] at hb
            rcases hb with h | h
            · exact hz0 b (.tr Z0 _ v0 h)
            · exact hz1 b (.tr Z1 _ v1 h)
          have hfresh := J.snoc (gc_Series ⟨u.labels, cutF f t u.samples⟩ d01) (fun y hy b hb hb' => by
            simp only [znA_cons, znI_raw, znI_tr, znA_nil, or_false, false_or] at hb'
            rcases hb' with h | h
            · exact ha0.2 9 2 125 _ y b rfl hy hb (.tr Z0 _ v0 h)
            · exact ha1.2 9 2 125 _ y b rfl hy hb (.tr Z1 _ v1 h)) hn
          have e : (selL ms f t (x.take k)).map eSeries ++ [eSeries ⟨u.labels, cutF f t u.samples⟩] = (selL ms f t (x.take (k + 1))).map eSeries := by rw [hd, List.map_append]; rfl
          rw [e] at hfresh
          refine (q_mv _ rfl (q_bld _ (bl125 ⟨u.labels, cutF f t u.samples⟩) rfl rfl rfl (q_lit1 _ _ el63 ze125 (by decide) (by decide) rfl (.inl ⟨_, rfl⟩) rfl (
            q_app _ el63 ze125 rfl by125 rfl rfl rfl rfl rfl (by simp) (by intro s hs; simp at hs; subst hs; exact .inl ⟨_, rfl⟩) (by show rs.length + 1 ≤ maxLen; unfold maxLen; omega) (by show (rs.length + 1) * 48 ≤ _; omega) (q_ao _ rfl (run_nil (h15 _ ⟨_, hfresh, le_rek 9 39 ⟨rfl, rfl, rfl, rfl, rfl, rfl, rfl, trivial⟩ ⟨rfl, trivial⟩ rfl rfl rfl rfl ⟨rfl, trivial⟩⟩)))))))
        · rw [selG_cut (by simpa using c14), Option.toList_none, List.append_nil] at hd
          rw [← hd] at J
          exact ok_skip ⟨rs, J, le_sub ⟨rfl, rfl, rfl, rfl, rfl, rfl, rfl, trivial⟩ ⟨rfl, trivial⟩⟩
    · refine ok_last fun K16 h16 => ok_region rfl (
        q_add rfl rfl (by omega) (q_mv _ rfl (run_nil (h16 _ ⟨(k + 1, rs'), by simp only; omega, J, le_sub ⟨rfl, rfl, rfl, rfl, rfl, rfl, rfl, trivial⟩ ⟨rfl, trivial⟩⟩))))
  · rw [List.take_of_length_le (by have : ¬ ((k : Int) < x.length) := by simpa using c7
                                   omega)] at J
    refine ok_exit (h3 _ ?_)
    refine ok_seq fun K13 h13 => ok_region rfl (q_mo _ rfl (q_ao _ rfl (run_nil (h13 _ ?_)))); clear h13 K13
    refine ok_treed (k := 9) (n := 2) (T := 125) (rs := rs) (ss := (selL ms f t x).map eSeries) rfl J.len J.gd J.ap (fun r hr b hb => .inl (J.nw r hr b hb)) (fun Z v hZ => ?_)
    exact ok_ret ⟨_, ⟨_, _, rfl, rfl, rfl⟩, .tr Z 2 _ v, fun b hb => (hZ b (zn_tr hb)).elim id fun h => h.elim⟩
/-- Times rise. -/
def RisS (q : List Sample) : Prop := q.Pairwise fun a b => a.time < b.time
theorem cL_le {α : Type} {c : α → Nat} {m : Nat} : ∀ (l : List α), (∀ x ∈ l, c x ≤ m) → cL c l ≤ m * l.length
  | [], _ => by simp [cL]
  | x :: l, h => by
    have h1 := cL_le l fun y hy => h y (List.mem_cons_of_mem _ hy)
    have h2 := h x (List.mem_cons_self ..)
    rw [List.length_cons, Nat.mul_succ]
    simp only [cL]
    omega
theorem cSeries_le {s : Series} (h : SSeries s) : cSeries s ≤ 4194304 := by
  have h1 := cL_le (c := cLabel) (m := 2) s.labels fun _ _ => Nat.le_refl _
  have h2 := cL_le (c := cSample) (m := 2) s.samples fun _ _ => Nat.le_refl _
  have h3 := h.1.1
  have h4 := h.2
  unfold cSeries
  omega
end Go.Ring
