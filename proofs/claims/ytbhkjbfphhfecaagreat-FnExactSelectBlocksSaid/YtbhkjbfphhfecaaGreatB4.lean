/- What is chosen of a block: the program; both say the same. No condition beyond the lengths. -/
import Derived.Test.YtbhkjbfphhfecaaGreatB3
set_option maxRecDepth 100000
set_option linter.unusedVariables false
set_option linter.unusedSimpArgs false
namespace Go.Ring
open Go Go.RowKit Go.Eager Go.Abs Go.Proofs
/-- A copy of ours, told as its value. -/
theorem le_trv {Γ : Ctx} {t : List (Nat × LV)} {h : List (Nat × Ent)} {Z : Nat → Prop} {s : SV} {v : Value} (k : Nat) (hk : t.lookup k = some (.sv (.tr Z s v))) : Le Γ ⟨(k, .sv s) :: t, h⟩ ⟨t, h⟩ := by
  rintro a w ⟨ρ, I⟩
  refine ⟨ρ, I.dfr, I.size, I.frm, fun k' lv hk' => ?_, I.ent, I.new, I.sep, I.out, I.inn⟩
  rw [List.lookup_cons] at hk'
  cases hq : (k' == k) with
  | false => simp only [hq] at hk'; exact I.tmp k' lv hk'
  | true =>
    simp only [hq, Option.some.injEq] at hk'
    subst hk'
    obtain rfl : k' = k := by simpa using hq
    have h1 := I.tmp k' _ hk
    cases h1 with
    | tr _ _ _ hT hZ => exact hT.rep fun b hb => (hZ b hb).2
theorem le_nil {Γ : Ctx} {t : List (Nat × LV)} {h : List (Nat × Ent)} (n k : Nat) (hk : t.lookup k = some (.sv (.raw (.slice none 0 0)))) : Le Γ ⟨(k, .sv (.sl n [])) :: t, h⟩ ⟨t, h⟩ := by
  rintro a w ⟨ρ, I⟩
  refine ⟨ρ, I.dfr, I.size, I.frm, fun k' lv hk' => ?_, I.ent, I.new, I.sep, I.out, I.inn⟩
  rw [List.lookup_cons] at hk'
  cases hq : (k' == k) with
  | false => simp only [hq] at hk'; exact I.tmp k' lv hk'
  | true =>
    simp only [hq, Option.some.injEq] at hk'
    subst hk'
    obtain rfl : k' = k := by simpa using hq
    exact rep_nil0 (I.tmp k' _ hk)
theorem selG_fit {ms : List Matcher} {f t : Int} {u : Series} (h : matB ms u.labels = false) : selG ms f t u = none := by
  unfold selG; rw [if_neg (fun c => by rw [h] at c; exact absurd c.2 (by decide))]
theorem selG_some {ms : List Matcher} {f t : Int} {u : Series} (h : matB ms u.labels = true) (h2 : 0 < (cutF f t u.samples).length) : selG ms f t u = some ⟨u.labels, cutF f t u.samples⟩ := by
  unfold selG; rw [if_pos ⟨h2, h⟩]
theorem selG_cut {ms : List Matcher} {f t : Int} {u : Series} (h2 : ¬ 0 < (cutF f t u.samples).length) : selG ms f t u = none := by
  unfold selG; rw [if_neg (fun c => h2 c.1)]
theorem selL_take {ms : List Matcher} {f t : Int} {x : List Series} {k : Nat} {u : Series} (hu : x[k]? = some u) : selL ms f t (x.take (k + 1)) = selL ms f t (x.take k) ++ (selG ms f t u).toList := by
  unfold selL
  rw [List.take_add_one, hu, Option.toList_some, List.filterMap_append]
  rw [List.filterMap_cons]
  cases selG ms f t u <;> rfl
theorem f69_t (x : List Series) (hx : x.length ≤ 1048576 ∧ ∀ y ∈ x, SSeries y) (ms : List Matcher) (hms : ms.length ≤ 1048576) (hm : ∀ m ∈ ms, SMatcher m) (hv : ∀ y ∈ x, ∀ n, (valOf y.labels n).size ≤ 100) (f t : Int) : PFnT Tryz.prog 69 [eSeriesS x, eMatcherS ms, int f, int t] (eSeriesS (selL ms f t x)) := by
  have hle : x.length ≤ 1048576 := hx.1
  refine fnp_ok (n := 42) Tryz.func69 rfl rfl rfl (Nat.le_of_ble_eq_true rfl) rfl fun w0 O => ?_
  refine ok_seq fun K1 h1 => ok_region rfl (q_as _ rfl (run_nil (h1 _ ?_))); clear h1 K1
  refine ok_seq fun K2 h2 => ok_region rfl (q_an (n := 2) 83 (by decide) rfl rfl rfl (run_nil (h2 _ ?_))); clear h2 K2
  refine ok_seq fun K3 h3 => ?_
  refine ok_seq fun K4 h4 => ok_region rfl (q_mv _ rfl (q_len eS31 rfl (q_mv _ rfl (run_nil (h4 _ ?_))))); clear h4 K4
  rw [List.length_map]
  refine ok_block ?_
  refine ok_loop (fun (s : Nat × List SV) => ⟨[(1, .sv (eMatcherS ms)), (2, .sv (int f)), (3, .sv (int t)), (9, .own 9), (13, .sv (eSeriesS x)), (14, .sv (int x.length)), (15, .sv (int s.1))], [(9, .row 2 83 s.2)]⟩) (fun s => Cps w0 s.2 ((selL ms f t (x.take s.1)).map eSeries)) (fun s => x.length - s.1) (0, []) (Cps.nil w0) (le_sub ⟨rfl, rfl, rfl, rfl, rfl, rfl, rfl, trivial⟩ ⟨rfl, trivial⟩) (fun s J => ?_)
  obtain ⟨k, rs⟩ := s
  simp only at J
  have hrl : rs.length ≤ k := by
    rw [J.len, List.length_map]
    exact Nat.le_trans (fm_len _ _) (by rw [List.length_take]; omega)
  refine ok_seq fun K5 h5 => ok_region rfl (q_bin _ _ _ rfl rfl rfl (run_nil (h5 _ ?_))); clear h5 K5
  refine ok_seq fun K6 h6 => ?_
  refine ok_cond rfl (fun c7 => ?_) (fun c7 => ?_)
  · have hk : k < x.length := by simpa using c7
    obtain ⟨u, hu⟩ := sget hk
    have nu := hx.2 u (smem hu)
    have hd := selL_take (ms := ms) (f := f) (t := t) hu
    refine ok_skip (h6 _ ?_)
    refine ok_seq_join (fun (rs' : List SV) => ⟨[(1, .sv (eMatcherS ms)), (2, .sv (int f)), (3, .sv (int t)), (9, .own 9), (13, .sv (eSeriesS x)), (14, .sv (int x.length)), (15, .sv (int k))], [(9, .row 2 83 rs')]⟩) (fun rs' => Cps w0 rs' ((selL ms f t (x.take (k + 1))).map eSeries)) ?_ (fun rs' J => ?_)
    · refine ok_block ?_
      refine ok_seq fun K8 h8 => ok_region rfl (q_ia el31 rfl rfl (by omega) (mget (f := eSeries) hu) (q_lds _ ag83 rfl sz83 (q_alloc _ ze83 rfl rfl rfl rfl (q_sts _ rfl rfl rfl sz83 (Nat.le_of_ble_eq_true rfl) rfl (run_nil (h8 _ ?_)))))); clear h8 K8
      refine ok_seq fun K9 h9 => ?_
      refine ok_seq fun K10 h10 => ok_region rfl (q_mv _ rfl (q_fap fd83_0 rfl (by decide) (q_ldb (.sv (eLabelS u.labels)) ag80 rfl rfl rfl (q_call (f63_ok ms u.labels hms hm nu.1.1 (hv u (smem hu))) cl63 rfl rfl (q_un _ _ rfl rfl (run_nil (h10 _ ?_))))))); clear h10 K10
      refine ok_cond rfl (fun c11 => ?_) (fun c11 => ?_)
      · have hgg := selG_fit (ms := ms) (f := f) (t := t) (u := u) (by simpa using c11)
        rw [hgg, Option.toList_none, List.append_nil] at hd
        rw [← hd] at J
        exact ok_exit ⟨rs, J, le_sub ⟨rfl, rfl, rfl, rfl, rfl, rfl, rfl, trivial⟩ ⟨rfl, trivial⟩⟩
      · have hfit : matB ms u.labels = true := by simpa using c11
        refine ok_skip (h9 _ ?_)
        refine ok_seq fun K12 h12 => ok_region rfl (q_fap fd83_1 rfl (by decide) (q_ldb (.sv (eSampleS u.samples)) ag81 rfl rfl rfl (q_mv _ rfl (q_mv _ rfl (q_callr (f131_t u.samples nu.2 f t) cl131 rfl (fun r1 hr1 hz1 ha1 => ?_))))))
        obtain ⟨Z1, v1, rfl⟩ := gd_sl_inv hr1
        refine q_as _ rfl (run_nil (h12 _ ?_)); clear h12 K12
        refine ok_seq fun K13 h13 => ok_region rfl (q_mv _ rfl (run_le (le_trv 29 rfl) (q_len eS81 rfl (q_bin _ _ _ rfl rfl rfl (run_nil (h13 _ ?_)))))); clear h13 K13
        rw [List.length_map]
        refine ok_cond rfl (fun c14 => ?_) (fun c14 => ?_)
        · rw [selG_some hfit (by simpa using c14)] at hd
          refine ok_last fun K15 h15 => ok_region rfl (
            q_mo _ rfl (q_fap fd83_0 rfl (by decide) (q_ldb (.sv (eLabelS u.labels)) ag80 rfl rfl rfl (q_callr (f78_t u.labels nu.1.1) cl78 rfl (fun r0 hr0 hz0 ha0 => ?_)))))
          obtain ⟨Z0, v0, rfl⟩ := gd_sl_inv hr0
          have d01 : ∀ b, Z0 b → ¬ Z1 b := fun b h0 h1 => ha0.1 12 _ b rfl (.tr Z1 _ v1 h1) (.tr Z0 _ v0 h0)
          have hn : ∀ b, Zn b (.agg [.tr Z0 (eLabelS u.labels) v0, .tr Z1 (eSampleS (cutF f t u.samples)) v1]) → w0.heap.size ≤ b := fun b hb => by
            simp only [znA_cons, znI_raw, znI_tr, znA_nil, or_false, false_or] at hb
            rcases hb with h | h
            · exact hz0 b (.tr Z0 _ v0 h)
            · exact hz1 b (.tr Z1 _ v1 h)
          have hfresh := J.snoc (gc_Series ⟨u.labels, cutF f t u.samples⟩ d01) (fun y hy b hb hb' => by
            simp only [znA_cons, znI_raw, znI_tr, znA_nil, or_false, false_or] at hb'
            rcases hb' with h | h
            · exact ha0.2 9 2 83 _ y b rfl hy hb (.tr Z0 _ v0 h)
            · exact ha1.2 9 2 83 _ y b rfl hy hb (.tr Z1 _ v1 h)) hn
          have e : (selL ms f t (x.take k)).map eSeries ++ [eSeries ⟨u.labels, cutF f t u.samples⟩] = (selL ms f t (x.take (k + 1))).map eSeries := by rw [hd, List.map_append]; rfl
          rw [e] at hfresh
          refine (q_mv _ rfl (q_bld _ (bl83 ⟨u.labels, cutF f t u.samples⟩) rfl rfl rfl (q_lit1 _ _ el31 ze83 (by decide) (by decide) rfl (.inl ⟨_, rfl⟩) rfl (
            q_app _ el31 ze83 rfl by83 rfl rfl rfl rfl rfl (by simp) (by intro s hs; simp at hs; subst hs; exact .inl ⟨_, rfl⟩) (by show rs.length + 1 ≤ maxLen; unfold maxLen; omega) (by show (rs.length + 1) * 48 ≤ _; omega) (q_ao _ rfl (run_nil (h15 _ ⟨_, hfresh, le_rek 9 39 ⟨rfl, rfl, rfl, rfl, rfl, rfl, rfl, trivial⟩ ⟨rfl, trivial⟩ rfl rfl rfl rfl ⟨rfl, trivial⟩⟩)))))))
        · rw [selG_cut (by simpa using c14), Option.toList_none, List.append_nil] at hd
          rw [← hd] at J
          exact ok_skip ⟨rs, J, le_sub ⟨rfl, rfl, rfl, rfl, rfl, rfl, rfl, trivial⟩ ⟨rfl, trivial⟩⟩
    · refine ok_last fun K16 h16 => ok_region rfl (
        q_add rfl rfl (by omega) (q_mv _ rfl (run_nil (h16 _ ⟨(k + 1, rs'), by simp only; omega, J, le_sub ⟨rfl, rfl, rfl, rfl, rfl, rfl, rfl, trivial⟩ ⟨rfl, trivial⟩⟩))))
  · rw [List.take_of_length_le (by have : ¬ ((k : Int) < x.length) := by simpa using c7
                                   omega)] at J
    refine ok_exit (h3 _ ?_)
    refine ok_seq fun K13 h13 => ok_region rfl (q_mo _ rfl (q_ao _ rfl (run_nil (h13 _ ?_)))); clear h13 K13
    refine ok_treed (k := 9) (n := 2) (T := 83) (rs := rs) (ss := (selL ms f t x).map eSeries) rfl J.len J.gd J.ap (fun r hr b hb => .inl (J.nw r hr b hb)) (fun Z v hZ => ?_)
    exact ok_ret ⟨_, ⟨_, _, rfl, rfl, rfl⟩, .tr Z 2 _ v, fun b hb => (hZ b (zn_tr hb)).elim id fun h => h.elim⟩
/-- Times rise. -/
def RisS (q : List Sample) : Prop := q.Pairwise fun a b => a.time < b.time
theorem ris_of {l : List Sample} (h : SamplesOk l) : RisS l ∧ ∀ x ∈ l, 0 ≤ x.time ∧ x.time ≤ 1000000000000 := by
  refine ⟨?_, fun x hx => ?_⟩
  · unfold RisS
    rw [List.pairwise_iff_getElem]
    intro i j hi hj hij
    have key : ∀ (d : Nat) (hd : i + d + 1 < l.length), (l[i]'hi).time < (l[i + d + 1]'hd).time := by
      intro d
      induction d with
      | zero =>
        intro hd
        exact (h.2 (i + 1) _ (List.getElem?_eq_getElem hd)).2 _ (Nat.succ_pos i) (by rw [Nat.add_sub_cancel]; exact List.getElem?_eq_getElem hi)
      | succ d ih =>
        intro hd
        have h1 := ih (by omega)
        have h2 := (h.2 (i + d + 1 + 1) _ (List.getElem?_eq_getElem hd)).2 _ (Nat.succ_pos _) (by rw [Nat.add_sub_cancel]; exact List.getElem?_eq_getElem (by omega))
        exact Int.lt_trans h1 h2
    have := key (j - i - 1) (by omega)
    have e : i + (j - i - 1) + 1 = j := by omega
    simp only [e] at this
    exact this
  · obtain ⟨i, hi⟩ := List.getElem?_of_mem hx
    exact (h.2 i x hi).1
theorem al1_eq {t : Stone} (ht : t.from_ ≤ t.to) : ∀ {q : List Sample}, RisS q → (∀ x ∈ q, 0 ≤ x.time ∧ x.time ≤ 1000000000000) → al1 t q = q.filter fun x => !(decide (t.from_ ≤ x.time) && decide (x.time ≤ t.to))
  | [], _, _ => rfl
  | x :: q, h, hx => by
    have h' := List.pairwise_cons.1 h
    have ih := al1_eq ht (q := q) h'.2 fun y hy => hx y (List.mem_cons_of_mem _ hy)
    have hx0 := hx x (List.mem_cons_self ..)
    unfold al1 cutF at ih ⊢
    rw [List.filter_cons, List.filter_cons, List.filter_cons]
    by_cases h1 : x.time < t.from_
    · rw [if_pos (by simp only [Bool.and_eq_true, decide_eq_true_eq]; omega), if_neg (by simp only [Bool.and_eq_true, decide_eq_true_eq]; omega), if_pos (by simp only [Bool.not_eq_true', Bool.and_eq_false_iff, decide_eq_false_iff_not]; omega), List.cons_append, ih]
    · by_cases h2 : x.time ≤ t.to
      · rw [if_neg (by simp only [Bool.and_eq_true, decide_eq_true_eq]; omega), if_neg (by simp only [Bool.and_eq_true, decide_eq_true_eq]; omega), if_neg (by simp only [Bool.not_eq_true', Bool.and_eq_false_iff, decide_eq_false_iff_not]; omega), ih]
      · have e : q.filter (fun u => decide (0 ≤ u.time) && decide (u.time ≤ t.from_ - 1)) = [] := by
          rw [List.filter_eq_nil_iff]
          intro y hy
          have := h'.1 y hy
          simp only [Bool.and_eq_true, decide_eq_true_eq]; omega
        rw [e, List.nil_append] at ih
        rw [if_neg (by simp only [Bool.and_eq_true, decide_eq_true_eq]; omega), if_pos (by simp only [Bool.and_eq_true, decide_eq_true_eq]; omega), if_pos (by simp only [Bool.not_eq_true', Bool.and_eq_false_iff, decide_eq_false_iff_not]; omega), e, List.nil_append, ih]
theorem aliveF_eq (ls : List Label) : ∀ (l : List Stone) (q : List Sample), (∀ t ∈ l, t.from_ ≤ t.to) → RisS q → (∀ x ∈ q, 0 ≤ x.time ∧ x.time ≤ 1000000000000) → aliveF ls l q = q.filter fun x => !l.any (stIn ls x)
  | [], q, _, _, _ => by rw [List.filter_eq_self.2 (by intro x _; rfl)]; rfl
  | t :: l, q, h, hr, hx => by
    have ih := fun q' => aliveF_eq ls l q' fun u hu => h u (List.mem_cons_of_mem _ hu)
    rw [show aliveF ls (t :: l) q = aliveF ls l (if cmpLs t.labels ls = 0 then al1 t q else q) from rfl]
    by_cases hc : cmpLs t.labels ls = 0
    · rw [if_pos hc, al1_eq (h t (List.mem_cons_self ..)) hr hx, ih _ (List.Pairwise.filter _ hr) fun x hx' => hx x (List.mem_filter.1 hx').1, List.filter_filter]
      refine List.filter_congr fun x _ => ?_
      unfold stIn
      rw [List.any_cons, hc]
      simp only [decide_true, Bool.and_true, Bool.not_or]
      rw [Bool.and_comm]
    · rw [if_neg hc, ih _ hr hx]
      refine List.filter_congr fun x _ => ?_
      rw [List.any_cons]
      have : stIn ls x t = false := by unfold stIn; rw [decide_eq_false hc, Bool.and_false]
      rw [this, Bool.false_or]
theorem stones_of {b : Block} (h : BlockOk b) : ∀ t ∈ b.stones, 0 ≤ t.from_ ∧ t.from_ ≤ t.to ∧ t.to ≤ 1000000000000 := fun t ht => by
  obtain ⟨i, hi⟩ := List.getElem?_of_mem ht
  obtain ⟨a1, a2, a3, a4, a5, a6, a7, a8, a9⟩ := h
  obtain ⟨b1, b2, b3, b4, b5, b6⟩ := a9 i t hi
  have := a1.1
  omega
theorem cutF_pos {f t : Int} {l : List Sample} (h : 0 < (cutF f t l).length) : 0 < l.length := Nat.lt_of_lt_of_le h (cutF_len f t l)
theorem filterMap_bind {α β γ : Type} (f : α → Option β) (g : β → Option γ) : ∀ l : List α, (l.filterMap f).filterMap g = l.filterMap fun x => (f x).bind g
  | [] => rfl
  | x :: l => by
    rw [List.filterMap_cons, List.filterMap_cons]
    cases hx : f x with
    | none => simp only [Option.bind_none]; exact filterMap_bind f g l
    | some y =>
      simp only [Option.bind_some]
      rw [List.filterMap_cons]
      cases g y with
      | none => exact filterMap_bind f g l
      | some z => simp only [filterMap_bind f g l]
/-- THE PLAIN LAW: taken first and cut then, or cut first and fitted then. -/
theorem sel_law {b : Block} (h : BlockOk b) (ms : List Matcher) (f t : Int) : selL [] f t (aliL b ms b.series) = selL ms f t (standL b) := by
  unfold selL aliL standL
  rw [filterMap_bind, filterMap_bind]
  have key : ∀ s ∈ b.series, (aliG b ms s).bind (selG [] f t) = (stG b s).bind (selG ms f t) := by
    intro s hs
    obtain ⟨i, hi⟩ := List.getElem?_of_mem hs
    have hso := ris_of (h.2.2.2.2.2.1.2 i s hi).2.2.1
    have e : aliveF s.labels b.stones s.samples = stand1 b s := aliveF_eq _ _ _ (fun t ht => (stones_of h t ht).2.1) hso.1 hso.2
    unfold aliG stG
    rw [e]
    by_cases h1 : matB ms s.labels = true
    · rw [if_pos h1, Option.bind_some]
      by_cases h2 : 0 < (cutF f t (stand1 b s)).length
      · rw [if_pos (cutF_pos h2), Option.bind_some, selG_some (u := ⟨s.labels, stand1 b s⟩) h1 h2, selG_some (u := ⟨s.labels, stand1 b s⟩) rfl h2]
      · rw [selG_cut (u := ⟨s.labels, stand1 b s⟩) h2]
        split
        · rw [Option.bind_some, selG_cut (u := ⟨s.labels, stand1 b s⟩) h2]
        · rfl
    · rw [if_neg h1, Option.bind_none]
      split
      · rw [Option.bind_some, selG_fit (u := ⟨s.labels, stand1 b s⟩) (by simpa using h1)]
      · rfl
  have gen : ∀ l : List Series, (∀ s ∈ l, s ∈ b.series) → l.filterMap (fun s => (aliG b ms s).bind (selG [] f t)) = l.filterMap fun s => (stG b s).bind (selG ms f t) := by
    intro l
    induction l with
    | nil => intro _; rfl
    | cons x l ih =>
      intro hl
      rw [List.filterMap_cons, List.filterMap_cons, key x (hl x (List.mem_cons_self ..)), ih fun s hs => hl s (List.mem_cons_of_mem _ hs)]
  exact gen b.series fun s h => h
noncomputable def resB (b : Block) (ms : List Matcher) (f t : Int) : List Series := if pB (BlockOk b) = true ∧ gmsB ms = true then selL ms f t (standL b) else []
theorem resB_S {b : Block} (hb : SBlock b) (ms : List Matcher) (f t : Int) : (resB b ms f t).length ≤ 1048576 ∧ ∀ y ∈ resB b ms f t, SSeries y := by
  unfold resB
  split
  · exact selL_S (standL_S hb)
  · exact ⟨by simp, by simp⟩
theorem cL_le {α : Type} {c : α → Nat} {m : Nat} : ∀ (l : List α), (∀ x ∈ l, c x ≤ m) → cL c l ≤ m * l.length
  | [], _ => by simp [cL]
  | x :: l, h => by
    have h1 := cL_le l fun y hy => h y (List.mem_cons_of_mem _ hy)
    have h2 := h x (List.mem_cons_self ..)
    rw [List.length_cons, Nat.mul_succ]
    simp only [cL]
    omega
theorem cSeries_le {s : Series} (h : SSeries s) : cSeries s ≤ 4194304 := by
  have h1 := cL_le (c := cLabel) (m := 2) s.labels fun _ _ => Nat.le_refl _
  have h2 := cL_le (c := cSample) (m := 2) s.samples fun _ _ => Nat.le_refl _
  have h3 := h.1.1
  have h4 := h.2
  unfold cSeries
  omega
theorem resB_C {b : Block} (hb : SBlock b) (ms : List Matcher) (f t : Int) : 1 + cL cSeries (resB b ms f t) ≤ 1152921504606846976 := by
  have h := resB_S hb ms f t
  have h1 := cL_le (c := cSeries) (m := 4194304) (resB b ms f t) fun s hs => cSeries_le (h.2 s hs)
  have h2 := h.1
  omega
theorem f24_ok (b : Block) (hb : SBlock b) (ms : List Matcher) (hn : ms.length ≤ 1048576 ∧ ∀ m ∈ ms, SMatcher m) (f t : Int) : PFn Tryz.prog 24 [eBlock b, eMatcherS ms, int f, int t] (eSeriesS (resB b ms f t)) := by
  refine fn_ok' (n := 22) Tryz.func24 rfl rfl rfl (Nat.le_of_ble_eq_true rfl) rfl fun w0 O => ?_
  refine ok_seq fun K1 h1 => ok_region rfl (q_boxs _ rfl (Nat.zero_lt_succ _) (q_as _ rfl (run_nil (h1 _ ?_)))); clear h1 K1
  refine ok_seq fun K2 h2 => ?_
  refine ok_seq fun K3 h3 => ?_
  refine ok_region rfl (q_lds _ ag34 rfl sz34 (q_call (f55_ok b hb) cl55 rfl rfl (q_un _ _ rfl rfl (q_mv _ rfl (q_or 3 3 rfl rfl rfl rfl rfl (fun hb16 =>
      q_mv _ rfl (q_call (f56_ok ms hn.1 hn.2) cl56 rfl rfl (q_un _ _ rfl rfl (run_nil ⟨rfl, rfl, rfl, rfl⟩)))) (
    run_nil (h3 _ ?_)))))))
  clear h3 K3
  refine ok_cond rfl (fun c4 => ?_) (fun c4 => ?_)
  · have e : resB b ms f t = [] := by
      unfold resB
      rw [if_neg]
      intro hc
      rw [hc.1, hc.2] at c4
      exact absurd c4 (by decide)
    refine ok_seq fun K5 h5 => ?_
    refine ok_region rfl (q_as _ rfl (run_nil (h5 _ ?_)))
    clear h5 K5
    refine Ok.le (le_nil 2 8 rfl) (ok_ret ⟨_, rfl, ?_⟩)
    rw [e]; rfl
  · rw [Bool.or_eq_false_iff] at c4
    have hg : pB (BlockOk b) = true ∧ gmsB ms = true := ⟨by simpa using c4.1, by simpa using c4.2⟩
    have hbk := of_pB hg.1
    have e : resB b ms f t = selL [] f t (aliL b ms b.series) := by unfold resB; rw [if_pos hg, sel_law hbk]
    refine ok_skip (h2 _ ?_)
    refine ok_seq fun K6 h6 => ok_region rfl (q_lds _ ag34 rfl sz34 (q_mv _ rfl (q_mv _ rfl (q_mv _ rfl (q_call (f68_ok b hb (stones_of hbk) ms hn.1 hn.2 (gms_all hg.2) (fun y hy n => by
      obtain ⟨i, hi⟩ := List.getElem?_of_mem hy
      exact Nat.le_trans (val_size (labs_of hbk hi) n) (by omega)) f t) cl68 rfl rfl (q_as _ rfl (run_nil (h6 _ ?_)))))))); clear h6 K6
    exact ok_ret ⟨_, rfl, by rw [e]; rfl⟩
theorem f25_t (b : Block) (hb : SBlock b) (ms : List Matcher) (hn : ms.length ≤ 1048576 ∧ ∀ m ∈ ms, SMatcher m) (f t : Int) : PFnT Tryz.prog 25 [eBlock b, eMatcherS ms, int f, int t] (eSeriesS (resB b ms f t)) := by
  refine fnp_ok (n := 23) Tryz.func25 rfl rfl rfl (Nat.le_of_ble_eq_true rfl) rfl fun w0 O => ?_
  refine ok_seq fun K1 h1 => ok_region rfl (q_boxs _ rfl (Nat.zero_lt_succ _) (q_as _ rfl (run_nil (h1 _ ?_)))); clear h1 K1
  refine ok_seq fun K2 h2 => ?_
  refine ok_seq fun K3 h3 => ?_
  refine ok_region rfl (q_lds _ ag34 rfl sz34 (q_call (f61_ok b hb) cl61 rfl rfl (q_un _ _ rfl rfl (q_mv _ rfl (q_or 3 3 rfl rfl rfl rfl rfl (fun hb16 =>
      q_mv _ rfl (q_call (f62_ok ms hn.1 hn.2) cl62 rfl rfl (q_un _ _ rfl rfl (run_nil ⟨rfl, rfl, rfl, rfl⟩)))) (
    run_nil (h3 _ ?_)))))))
  clear h3 K3
  refine ok_cond rfl (fun c4 => ?_) (fun c4 => ?_)
  · have e : resB b ms f t = [] := by
      unfold resB
      rw [if_neg]
      intro hc
      rw [hc.1, hc.2] at c4
      exact absurd c4 (by decide)
    refine ok_seq fun K5 h5 => ?_
    refine ok_region rfl (q_as _ rfl (run_nil (h5 _ ?_)))
    clear h5 K5
    refine ok_nilT 2 (ok_ret ⟨_, ⟨_, _, rfl, rfl, rfl⟩, ?_, fun b hb => (zn_tr hb).elim⟩)
    rw [e]
    exact .tr _ _ _ _
  · rw [Bool.or_eq_false_iff] at c4
    have hg : pB (BlockOk b) = true ∧ gmsB ms = true := ⟨by simpa using c4.1, by simpa using c4.2⟩
    have hbk := of_pB hg.1
    have e : resB b ms f t = selL ms f t (standL b) := by unfold resB; rw [if_pos hg]
    have hvs : ∀ y ∈ standL b, ∀ n, (valOf y.labels n).size ≤ 100 := fun y hy n => by
      obtain ⟨s, hs, hs2⟩ := List.mem_filterMap.1 hy
      obtain ⟨i, hi⟩ := List.getElem?_of_mem hs
      unfold stG at hs2
      split at hs2
      · cases hs2; exact val_size (labs_of hbk hi) n
      · cases hs2
    refine ok_skip (h2 _ ?_)
    refine ok_seq fun K6 h6 => ok_region rfl (q_lds _ ag34 rfl sz34 (q_call (f70_ok b hb) cl70 rfl rfl (q_mv _ rfl (q_mv _ rfl (q_mv _ rfl (q_callr (f69_t (standL b) (standL_S hb) ms hn.1 hn.2 hvs f t) cl69 rfl (fun r hr hz ha => ?_)))))))
    obtain ⟨Z, v, rfl⟩ := gd_sl_inv hr
    refine q_as _ rfl (run_nil (h6 _ ?_)); clear h6 K6
    refine ok_ret ⟨_, ⟨_, _, rfl, rfl, rfl⟩, ?_, hz⟩
    rw [e]
    exact .tr _ _ _ _
end Go.Ring
