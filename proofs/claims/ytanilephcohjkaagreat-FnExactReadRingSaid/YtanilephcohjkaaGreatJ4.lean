/- Samples joined: the reference. No condition beyond the sizes. -/
import Derived.Test.YtanilephcohjkaaGreatJ3
set_option maxRecDepth 100000
set_option linter.unusedVariables false
set_option linter.unusedSimpArgs false
namespace Go.Ring
open Go Go.RowKit Go.Eager Go.Abs Go.Proofs
theorem cut0 (t : Int) : ∀ l : List Sample, vat t l = ((cutF t t l)[0]?).map (·.value)
  | [] => rfl
  | s :: l => by
    unfold cutF
    rw [List.filter_cons]
    unfold vat
    by_cases h : s.time = t
    · subst h; simp
    · rw [if_neg h, if_neg (by simp; omega)]
      exact cut0 t l
theorem le_gd {Γ : Ctx} {t : List (Nat × LV)} {h : List (Nat × Ent)} {r s : SV} (k : Nat) (hk : t.lookup k = some (.sv r)) (g : Gd r s) : Le Γ ⟨(k, .sv s) :: t, h⟩ ⟨t, h⟩ := by
  rintro a w ⟨ρ, I⟩
  refine ⟨ρ, I.dfr, I.size, I.frm, fun t' lv hl => ?_, I.ent, I.new, I.sep, I.out, I.inn⟩
  rw [List.lookup_cons] at hl
  cases hq : (t' == k) with
  | true =>
    simp only [hq, Option.some.injEq] at hl
    subst hl
    have e : t' = k := by simpa using hq
    subst e
    exact g.rep (I.tmp t' _ hk)
  | false => simp only [hq] at hl; exact I.tmp t' lv hl
/-- The first k raised. -/
def raK (b M : List Sample) (k : Nat) : List Sample := (M.take k).map (gB b) ++ M.drop k
theorem raK_zero (b M : List Sample) : raK b M 0 = M := by simp [raK]
theorem raK_end (b M : List Sample) {k : Nat} (h : M.length ≤ k) : raK b M k = M.map (gB b) := by unfold raK; rw [List.take_of_length_le h, List.drop_of_length_le h, List.append_nil]
theorem raK_len (b M : List Sample) (k : Nat) : (raK b M k).length = M.length := by
  unfold raK
  rw [List.length_append, List.length_map, List.length_take, List.length_drop]
  omega
theorem raK_at {b M : List Sample} {k : Nat} {s : Sample} (h : M[k]? = some s) : (raK b M k)[k]? = some s := by
  have hk := slt h
  unfold raK
  rw [List.getElem?_append_right (by rw [List.length_map, List.length_take]; omega), List.length_map, List.length_take, show k - min k M.length = 0 by omega, List.getElem?_drop, Nat.add_zero]
  exact h
theorem raK_step {b M : List Sample} {k : Nat} {s : Sample} (h : M[k]? = some s) : raK b M (k + 1) = (raK b M k).set k (gB b s) := by
  have hk := slt h
  unfold raK
  rw [List.take_add_one, h, Option.toList_some, List.map_append, drop_cons h, List.set_append_right _ _ (by rw [List.length_map, List.length_take]; omega), List.length_map, List.length_take, show k - min k M.length = 0 by omega, List.set_cons_zero]
  simp
theorem set_same {α : Type} {l : List α} {k : Nat} {s : α} (h : l[k]? = some s) : l.set k s = l := by
  refine List.ext_getElem? fun j => ?_
  rw [List.getElem?_set]
  split
  · rename_i e; subst e; rw [if_pos (slt h), h]
  · rfl
theorem f152_t (a b : List Sample) (hl : a.length + b.length ≤ 1048576) (sa : SrtS a) (sb : SrtS b) : PFnT Tryz.prog 152 [eSampleS a, eSampleS b] (eSampleS (grM a b)) := by
  refine fnp_ok (n := 47) Tryz.func152 rfl rfl rfl (Nat.le_of_ble_eq_true rfl) rfl fun w0 O => ?_
  have hml := mg_len a b
  refine ok_seq fun K1 h1 => ok_region rfl (q_as _ rfl (run_nil (h1 _ ?_))); clear h1 K1
  refine ok_seq fun K2 h2 => ?_
  refine ok_region rfl (q_mv _ rfl (q_mv _ rfl (q_callg [1] (f206_t a b (by omega) (by omega)) cl206 ⟨.inl rfl, .inl rfl, trivial⟩ (fun r hr hz ha => ?_))))
  obtain ⟨Z0, v0, rfl⟩ := gd_sl_inv hr
  refine q_as _ rfl (run_nil (h2 _ ?_)); clear h2 K2
  refine Ok.le (le_sub (t' := [(1, .av (fun q => Zn q (.tr Z0 (eSampleS (mg a b)) v0)) (eSampleS b)), (5, .sv (.tr Z0 (eSampleS (mg a b)) v0))]) (h' := []) ⟨rfl, rfl, trivial⟩ trivial) ?_
  have eg : grM a b = (mg a b).map (gB b) := rfl
  rw [eg]
  generalize mg a b = M at *
  by_cases hM : M = []
  · subst hM
    refine Ok.le le_unav ?_
    refine ok_seq fun K4 h4 => ?_
    refine ok_seq fun K3 h3 => ok_region rfl (q_mv _ rfl (run_le (le_gd 12 rfl (.tr _ _ _ _)) (q_len eS123 rfl (q_mv _ rfl (run_nil (h3 _ ?_)))))); clear h3 K3
    refine ok_block ?_
    refine ok_loop (fun (k : Nat) => ⟨[(5, .sv (.tr Z0 (eSampleS []) v0)), (13, .sv (int 0)), (14, .sv (int 0))], []⟩) (fun k => True) (fun k => k) 0 trivial (le_sub ⟨rfl, rfl, rfl, trivial⟩ trivial) (fun k J => ?_)
    refine ok_seq fun K5 h5 => ok_region rfl (q_bin _ _ _ rfl rfl rfl (run_nil (h5 _ ?_))); clear h5 K5
    refine ok_seq fun K6 h6 => ?_
    refine ok_cond rfl (fun c7 => ?_) (fun c7 => ?_)
    · exact absurd c7 (by simp)
    · refine ok_exit (h4 _ ?_)
      refine ok_seq fun K8 h8 => ok_region rfl (q_mv _ rfl (q_as _ rfl (run_nil (h8 _ ?_)))); clear h8 K8
      exact ok_ret ⟨_, ⟨_, _, rfl, rfl, rfl⟩, .tr _ _ _ _, hz⟩
  · have hne : M.map eSample ≠ [] := fun h => hM (List.map_eq_nil_iff.1 h)
    refine ok_otr 5 100 rfl hne (fun q hq => .inl (hz q (.tr _ _ _ hq))) rfl rfl ⟨fun q hq => .tr _ _ _ hq, trivial⟩ trivial (fun T rs hO => ?_)
    have hrs := otr_flat hO flat_sample
    subst hrs
    refine Ok.le le_unav ?_
    refine ok_seq fun K4 h4 => ?_
    refine ok_seq fun K3 h3 => ok_region rfl (q_mo _ rfl (q_leno eS123 rfl rfl (q_mv _ rfl (run_nil (h3 _ ?_))))); clear h3 K3
    rw [List.length_map]
    refine ok_block ?_
    refine ok_loop (fun (k : Nat) => ⟨[(1, .sv (eSampleS b)), (5, .own 100), (12, .own 100), (13, .sv (int M.length)), (14, .sv (int k))], [(100, .row 2 T ((raK b M k).map eSample))]⟩) (fun k => True) (fun k => M.length - k) 0 trivial (le_sub ⟨rfl, rfl, rfl, rfl, rfl, trivial⟩ ⟨by rw [raK_zero]; rfl, trivial⟩) (fun k J => ?_)
    refine ok_seq fun K5 h5 => ok_region rfl (q_bin _ _ _ rfl rfl rfl (run_nil (h5 _ ?_))); clear h5 K5
    refine ok_seq fun K6 h6 => ?_
    refine ok_cond rfl (fun c7 => ?_) (fun c7 => ?_)
    · refine ok_skip (h6 _ ?_)
      have hk : k < M.length := by simpa using c7
      obtain ⟨s, hs⟩ := sget hk
      have hat := raK_at (b := b) hs
      have hst := raK_step (b := b) hs
      have hul := raK_len b M k
      have hlt : k < ((raK b M k).map eSample).length := by rw [List.length_map]; omega
      have hg : gB b s = match ((cutF s.time s.time b)[0]?).map (·.value) with | some v => ⟨s.time, if s.value < v then v else s.value⟩ | none => s := by unfold gB; rw [cut0]; cases (cutF s.time s.time b)[0]? <;> rfl
      have hcl := cutF_len s.time s.time b
      obtain ⟨x0, hx0⟩ := fst0 (cutF s.time s.time b)
      refine ok_seq_join (fun (L : List Sample) => ⟨[(1, .sv (eSampleS b)), (5, .own 100), (12, .own 100), (13, .sv (int M.length)), (14, .sv (int k))], [(100, .row 2 T (L.map eSample))]⟩) (fun L => L = raK b M (k + 1)) ?_ (fun L hL => ?_)
      · refine ok_block ?_
        refine ok_seq fun K9 h9 => ok_region rfl (q_mv _ rfl (q_iao el123 rfl rfl rfl (by omega) hlt (q_ldes ag122 rfl rfl (mget (f := eSample) hat) sz122 (q_alloc _ ze122 rfl rfl rfl rfl (q_as _ rfl (q_sts _ rfl rfl rfl sz122 (Nat.le_of_ble_eq_true rfl) rfl (run_nil (h9 _ ?_)))))))); clear h9 K9
        refine ok_seq fun K10 h10 => ok_region rfl (q_mv _ rfl (q_fap fd122_0 rfl (by decide) (q_ldb (.sv (int s.time)) ag3 rfl rfl rfl (q_fap fd122_0 rfl (by decide) (q_ldb (.sv (int s.time)) ag3 rfl rfl rfl (q_call (f118_ok b (by omega) s.time s.time) cl118 rfl rfl (q_as _ rfl (run_nil (h10 _ ?_))))))))); clear h10 K10
        refine ok_seq fun K11 h11 => ?_
        refine ok_region_i (by kernel_rfl) (by kernel_rfl) rfl (
          q_mv _ rfl (q_len eS123 rfl (q_bin _ _ _ rfl rfl rfl (q_mv _ rfl (q_and 7 7 rfl rfl rfl rfl rfl (fun hb =>
            q_mv _ rfl (q_ia el123 rfl rfl (by omega) (mget (f := eSample) (i := 0) (hx0 (by have := of_decide_eq_true hb; rw [List.length_map] at this; omega))) (q_fa _ fd122_1 rfl rfl (by decide) (q_ld (int x0.value) ag3 rfl rfl (q_fap fd122_1 rfl (by decide) (q_ldb (.sv (int s.value)) ag3 rfl rfl rfl (q_bin _ _ _ rfl rfl rfl (run_nil ⟨rfl, rfl, rfl, rfl⟩)))))))) (
          run_nil (h11 _ ?_)))))))
        clear h11 K11
        rw [List.length_map]
        refine ok_cond rfl (fun c12 => ?_) (fun c12 => ?_)
        · simp only [Bool.and_eq_true, decide_eq_true_eq] at c12
          have h0 := hx0 (by omega)
          rw [h0] at hg
          have hg' : gB b s = ⟨s.time, x0.value⟩ := by rw [hg]; simp [c12.2]
          rw [hg'] at hst
          refine ok_last fun K13 h13 => ok_region rfl (
            q_mo _ rfl (q_mv _ rfl (q_mv _ rfl (q_ia el123 rfl rfl (by omega) (mget (f := eSample) (i := 0) h0) (q_fa _ fd122_1 rfl rfl (by decide) (q_ld (int x0.value) ag3 rfl rfl (
            q_iao el123 rfl rfl rfl (by omega) hlt (q_fae fd122_1 rfl (by decide) (q_stef sz3 rfl rfl (mget (f := eSample) hat) (by show 1 < 2; omega) rfl rfl rfl (run_nil (h13 _ ⟨_, hst.symm, le_sub ⟨rfl, rfl, rfl, rfl, rfl, trivial⟩ ⟨by rw [List.map_set]; rfl, trivial⟩⟩)))))))))))
        · have hsame : gB b s = s := by
            rw [hg]
            cases hq : (cutF s.time s.time b)[0]? with
            | none => rfl
            | some y =>
              have h0 := hx0 (slt hq)
              rw [hq] at h0; cases h0
              have hlen : (0 : Int) < ((cutF s.time s.time b).length : Int) := by have := slt hq; omega
              have h2 : ¬ s.value < x0.value := fun h => by
                have : (decide ((0 : Int) < ((cutF s.time s.time b).length : Int)) && decide (s.value < x0.value)) = true := by simp only [Bool.and_eq_true, decide_eq_true_eq]; exact ⟨hlen, h⟩
                rw [c12] at this; cases this
              show (⟨s.time, if s.value < x0.value then x0.value else s.value⟩ : Sample) = s
              rw [if_neg h2]
          rw [hsame, set_same hat] at hst
          exact ok_skip ⟨_, hst.symm, le_sub ⟨rfl, rfl, rfl, rfl, rfl, trivial⟩ ⟨rfl, trivial⟩⟩
      · subst hL
        refine ok_last fun K14 h14 => ok_region rfl (q_add rfl rfl (by omega) (q_mv _ rfl (run_nil (h14 _ ⟨k + 1, by omega, trivial, le_sub ⟨rfl, rfl, rfl, rfl, rfl, trivial⟩ ⟨rfl, trivial⟩⟩))))
    · rw [raK_end b M (by have : ¬ ((k : Int) < M.length) := by simpa using c7
                          omega)]
      refine ok_exit (h4 _ ?_)
      refine ok_seq fun K15 h15 => ok_region rfl (q_mo _ rfl (q_ao _ rfl (run_nil (h15 _ ?_)))); clear h15 K15
      obtain ⟨f1, f2, f3⟩ := gd_flatL (rs := (M.map (gB b)).map eSample) (fun r hr => by obtain ⟨x, _, rfl⟩ := List.mem_map.1 hr; exact flat_sample x)
      refine ok_treed (k := 100) (n := 2) (T := T) (rs := (M.map (gB b)).map eSample) (ss := (M.map (gB b)).map eSample) rfl rfl f1 f2 (fun r hr b hb => (f3 r hr b hb).elim) (fun Z v hZ => ?_)
      exact ok_ret ⟨_, ⟨_, _, rfl, rfl, rfl⟩, .tr Z 2 _ v, fun b hb => (hZ b (zn_tr hb)).elim id fun h => h.elim⟩
end Go.Ring
