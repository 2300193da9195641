/- Parts of the proof, laid together: A6 A7 A8 L3 B1 B2 B3. No condition. -/
import Derived.Test.YtanilephcohjkaaGreatSg7
import Derived.Test.YtanilephcohjkaaGreatSg5
import Derived.Test.YtanilephcohjkaaGreatU1
import Derived.Test.YtanilephcohjkaaGreatEg3
/- The reference's rows of what an alternative's rests stand for. No condition beyond the lengths. -/
namespace Go.Ring
open Go Go.RowKit Go.Eager Go.Abs Go.Proofs
set_option maxRecDepth 100000
set_option linter.unusedVariables false
set_option linter.unusedSimpArgs false
end Go.Ring

/- Patterns and matchers: what the program and the reference say of them. No condition beyond the lengths. -/
namespace Go.Ring
open Go Go.RowKit Go.Eager Go.Abs Go.Proofs
set_option maxRecDepth 100000
set_option linter.unusedVariables false
set_option linter.unusedSimpArgs false
end Go.Ring

/- Matchers: what the program and the reference say of them. No condition beyond the lengths. -/
namespace Go.Ring
open Go Go.RowKit Go.Eager Go.Abs Go.Proofs
set_option maxRecDepth 100000
set_option linter.unusedVariables false
set_option linter.unusedSimpArgs false
end Go.Ring

/- Where the series stand that fit matchers; the law. No condition. -/
set_option maxRecDepth 100000
set_option linter.unusedVariables false
set_option linter.unusedSimpArgs false
namespace Go.Ring
open Go Go.RowKit Go.Eager Go.Abs Go.Proofs
theorem ok_le {Γ : Ctx} {c : Code} {σ σ' : St} {Q : Exit → St → Prop} (h : Le Γ σ' σ) (hok : Ok Γ c σ' Q) : Ok Γ c σ Q := fun a w I => hok a w (h a w I)
end Go.Ring

/- Copies of rows, filters, cuts of samples, what stones cover. No condition beyond the lengths. -/
set_option maxRecDepth 100000
set_option linter.unusedVariables false
set_option linter.unusedSimpArgs false
namespace Go.Ring
open Go Go.RowKit Go.Eager Go.Abs Go.Proofs
theorem f166_t (x : List Label) (hx : x.length ≤ 1048576) : PFnT Tryz.prog 166 [eLabelS x] (eLabelS x) := by
  refine fnp_ok (n := 8) Tryz.func166 rfl rfl rfl (Nat.le_of_ble_eq_true rfl) rfl fun w0 O => ?_
  refine ok_seq fun K1 h1 => ok_region rfl (q_as _ rfl (run_nil (h1 _ ?_)))
  refine ok_seq fun K2 h2 => ?_
  refine ok_seq fun K3 h3 => ok_region rfl (q_mv _ rfl (q_eqn Tryz.underlying78 rfl (fun b hb => run_nil (h3 _ ?_))))
  refine ok_cond rfl (fun c4 => ?_) (fun c4 => ?_)
  · have hn : x = [] := by have := hb c4; simpa using this
    subst hn
    refine ok_seq fun K5 h5 => ?_
    refine ok_region rfl (q_as _ rfl (run_nil (h5 _ ?_)))
    exact ok_nilT 2 (ok_ret ⟨_, ⟨_, _, rfl, rfl, rfl⟩, .tr _ _ _ _, fun b hb => (zn_tr hb).elim⟩)
  · refine ok_skip (h2 _ ?_)
    rcases x with _ | ⟨u, x⟩
    · refine ok_seq fun K6 h6 => ok_region rfl (q_lito0 _ el78 ze190 (by decide) rfl rfl (q_mv _ rfl (q_appE el78 rfl rfl rfl (q_ao _ rfl (run_nil (h6 _ ?_))))))
      obtain ⟨g1, g2, g3⟩ := gd_flatL (rs := ([] : List Label).map eLabel) (fun r hr => by obtain ⟨y, _, rfl⟩ := List.mem_map.1 hr; rfl)
      refine ok_treed (k := 5) (n := 2) (T := 190) (rs := ([] : List Label).map eLabel) (ss := ([] : List Label).map eLabel) rfl rfl g1 g2 (fun r hr b hb => (g3 r hr b hb).elim) (fun Z v hZ => ?_)
      exact ok_ret ⟨_, ⟨_, _, rfl, rfl, rfl⟩, .tr Z 2 _ v, fun b hb => (hZ b (zn_tr hb)).elim id fun h => h.elim⟩
    · refine ok_seq fun K6 h6 => ok_region rfl (q_lito0 _ el78 ze190 (by decide) rfl rfl (q_mv _ rfl (q_app _ el78 ze190 rfl by190 rfl rfl rfl rfl rfl (by simp) (by intro s hs; obtain ⟨y, _, rfl⟩ := List.mem_map.1 hs; exact .inl ⟨_, rfl⟩) (by simp only [List.length_map, List.length_cons, List.length_nil] at hx ⊢; unfold maxLen; omega) (by simp only [List.length_map, List.length_cons, List.length_nil] at hx ⊢; omega) (q_ao _ rfl (run_nil (h6 _ ?_))))))
      obtain ⟨g1, g2, g3⟩ := gd_flatL (rs := (u :: x).map eLabel) (fun r hr => by obtain ⟨y, _, rfl⟩ := List.mem_map.1 hr; rfl)
      refine ok_treed (k := 7) (n := 2) (T := 190) (rs := (u :: x).map eLabel) (ss := (u :: x).map eLabel) rfl rfl g1 g2 (fun r hr b hb => (g3 r hr b hb).elim) (fun Z v hZ => ?_)
      exact ok_ret ⟨_, ⟨_, _, rfl, rfl, rfl⟩, .tr Z 2 _ v, fun b hb => (hZ b (zn_tr hb)).elim id fun h => h.elim⟩
theorem f153_t (x : List Label) (hx : x.length ≤ 1048576) : PFnT Tryz.prog 153 [eLabelS x] (eLabelS x) := by
  refine fnp_ok (n := 7) Tryz.func153 rfl rfl rfl (Nat.le_of_ble_eq_true rfl) rfl fun w0 O => ?_
  refine ok_seq fun K1 h1 => ok_region rfl (q_as _ rfl (run_nil (h1 _ ?_)))
  refine ok_seq fun K2 h2 => ok_region rfl (q_an (n := 2) 190 (by decide) rfl rfl rfl (run_nil (h2 _ ?_)))
  rcases x with _ | ⟨u, x⟩
  · refine ok_seq fun K3 h3 => ok_region rfl (q_mo _ rfl (q_mv _ rfl (q_appE el78 rfl rfl rfl (q_ao _ rfl (run_nil (h3 _ ?_))))))
    obtain ⟨g1, g2, g3⟩ := gd_flatL (rs := ([] : List Label).map eLabel) (fun r hr => by obtain ⟨y, _, rfl⟩ := List.mem_map.1 hr; rfl)
    refine ok_treed (k := 3) (n := 2) (T := 190) (rs := ([] : List Label).map eLabel) (ss := ([] : List Label).map eLabel) rfl rfl g1 g2 (fun r hr b hb => (g3 r hr b hb).elim) (fun Z v hZ => ?_)
    exact ok_ret ⟨_, ⟨_, _, rfl, rfl, rfl⟩, .tr Z 2 _ v, fun b hb => (hZ b (zn_tr hb)).elim id fun h => h.elim⟩
  · refine ok_seq fun K3 h3 => ok_region rfl (q_mo _ rfl (q_mv _ rfl (q_app _ el78 ze190 rfl by190 rfl rfl rfl rfl rfl (by simp) (by intro s hs; obtain ⟨y, _, rfl⟩ := List.mem_map.1 hs; exact .inl ⟨_, rfl⟩) (by simp only [List.length_map, List.length_cons, List.length_nil] at hx ⊢; unfold maxLen; omega) (by simp only [List.length_map, List.length_cons, List.length_nil] at hx ⊢; omega) (q_ao _ rfl (run_nil (h3 _ ?_))))))
    obtain ⟨g1, g2, g3⟩ := gd_flatL (rs := (u :: x).map eLabel) (fun r hr => by obtain ⟨y, _, rfl⟩ := List.mem_map.1 hr; rfl)
    refine ok_treed (k := 6) (n := 2) (T := 190) (rs := (u :: x).map eLabel) (ss := (u :: x).map eLabel) rfl rfl g1 g2 (fun r hr b hb => (g3 r hr b hb).elim) (fun Z v hZ => ?_)
    exact ok_ret ⟨_, ⟨_, _, rfl, rfl, rfl⟩, .tr Z 2 _ v, fun b hb => (hZ b (zn_tr hb)).elim id fun h => h.elim⟩
theorem built125 (p0 : Option Addr) (n0 c0 : Nat) (p1 : Option Addr) (n1 c1 : Nat) : Tryz.prog.built 125 [(0, .slice p0 n0 c0), (1, .slice p1 n1 c1)] = some #[.slice p0 n0 c0, .slice p1 n1 c1] := by kernel_rfl
theorem bl125 (x : Series) {Z0 : Nat → Prop} {v0 : Value} {Z1 : Nat → Prop} {v1 : Value} : BL Tryz.prog 125 [.tr Z0 (eLabelS x.labels) v0, .tr Z1 (eSampleS x.samples) v1] := by
  intro vs hv
  match vs, hv with
  | [w0, w1], hv =>
    obtain ⟨h0, h1, -⟩ := hv
    obtain ⟨rfl, p0, n0, c0, e0⟩ := h0
    obtain ⟨rfl, p1, n1, c1, e1⟩ := h1
    rw [e0]
    rw [e1]
    exact built125 p0 n0 c0 p1 n1 c1
def cutF (f t : Int) (l : List Sample) : List Sample := l.filter fun u => decide (f ≤ u.time) && decide (u.time ≤ t)
theorem cutF_len (f t : Int) (l : List Sample) : (cutF f t l).length ≤ l.length := List.length_filter_le _ _
theorem f118_ok (l : List Sample) (hl : l.length ≤ 1048576) (f t : Int) : PFn Tryz.prog 118 [eSampleS l, int f, int t] (eSampleS (cutF f t l)) := by
  refine fn_ok' (n := 32) Tryz.func118 rfl rfl rfl (Nat.le_of_ble_eq_true rfl) rfl fun w0 O => ?_
  refine ok_seq fun K1 h1 => ok_region rfl (q_as _ rfl (run_nil (h1 _ ?_)))
  refine ok_seq fun K2 h2 => ok_region rfl (q_an (n := 2) 122 (by decide) rfl rfl rfl (run_nil (h2 _ ?_)))
  refine ok_seq fun K3 h3 => ?_
  refine ok_seq fun K4 h4 => ok_region rfl (q_mv _ rfl (q_len eS123 rfl (q_mv _ rfl (run_nil (h4 _ ?_)))))
  rw [List.length_map]
  refine ok_block ?_
  refine ok_loop (fun (s : Nat × List Sample) => ⟨[(1, .sv (int f)), (2, .sv (int t)), (7, .own 7), (10, .sv (eSampleS l)), (11, .sv (int l.length)), (12, .sv (int s.1))], [(7, .row 2 122 (s.2.map eSample))]⟩) (fun s => s.2 ++ cutF f t (l.drop s.1) = cutF f t l ∧ s.2.length ≤ s.1) (fun s => l.length - s.1) (0, []) ⟨rfl, Nat.le_refl _⟩ (le_sub ⟨rfl, rfl, rfl, rfl, rfl, rfl, trivial⟩ ⟨rfl, trivial⟩) (fun s J => ?_)
  obtain ⟨k, q⟩ := s
  obtain ⟨j1, j2⟩ := J
  simp only at j1 j2
  refine ok_seq fun K5 h5 => ok_region rfl (q_bin _ _ _ rfl rfl rfl (run_nil (h5 _ ?_)))
  refine ok_seq fun K6 h6 => ?_
  refine ok_cond rfl (fun c7 => ?_) (fun c7 => ?_)
  · refine ok_skip (h6 _ ?_)
    have hk : k < l.length := by simpa using c7
    obtain ⟨u, hu⟩ := sget hk
    have hd : cutF f t (l.drop k) = if (decide (f ≤ u.time) && decide (u.time ≤ t)) = true then u :: cutF f t (l.drop (k + 1)) else cutF f t (l.drop (k + 1)) := by
      rw [drop_cons hu]; unfold cutF; rw [List.filter_cons]
    rw [hd] at j1
    refine ok_seq_join (fun (q' : List Sample) => ⟨[(1, .sv (int f)), (2, .sv (int t)), (7, .own 7), (10, .sv (eSampleS l)), (11, .sv (int l.length)), (12, .sv (int k))], [(7, .row 2 122 (q'.map eSample))]⟩) (fun q' => q' ++ cutF f t (l.drop (k + 1)) = cutF f t l ∧ q'.length ≤ k + 1) ?_ (fun q' J => ?_)
    · refine ok_block ?_
      refine ok_seq fun K8 h8 => ok_region rfl (q_ia el123 rfl rfl (by omega) (mget (f := eSample) hu) (q_lds _ ag122 rfl sz122 (q_alloc _ ze122 rfl rfl rfl rfl (q_sts _ rfl rfl rfl sz122 (Nat.le_of_ble_eq_true rfl) rfl (run_nil (h8 _ ?_))))))
      refine ok_seq fun K9 h9 => ?_
      refine ok_region rfl (q_fap fd122_0 rfl (by decide) (q_ldb (.sv (int u.time)) ag3 rfl rfl rfl (q_mv _ rfl (q_bin _ _ _ rfl rfl rfl (q_mv _ rfl (q_and 4 4 rfl rfl rfl rfl rfl (fun hb25 =>
          q_fap fd122_0 rfl (by decide) (q_ldb (.sv (int u.time)) ag3 rfl rfl rfl (q_mv _ rfl (q_bin _ _ _ rfl rfl rfl (run_nil ⟨rfl, rfl, rfl, rfl⟩))))) (
        run_nil (h9 _ ?_))))))))
      refine ok_cond rfl (fun c10 => ?_) (fun c10 => ?_)
      · rw [if_pos c10] at j1
        refine ok_last fun K11 h11 => ok_region rfl (
          q_mo _ rfl (q_ldbs ag122 rfl rfl sz122 rfl rfl (q_lit1 _ _ el123 ze122 (by decide) (by decide) rfl (.inl ⟨_, rfl⟩) rfl (q_app _ el123 ze122 rfl by122 rfl rfl rfl rfl rfl (by simp) (by intro s hs; simp at hs; subst hs; exact .inl ⟨_, rfl⟩) (by rw [List.length_map]; show q.length + 1 ≤ maxLen; unfold maxLen; omega) (by rw [List.length_map]; show (q.length + 1) * 16 ≤ _; omega) (
          q_ao _ rfl (run_nil (h11 _ ⟨q ++ [u], ⟨by rw [List.append_assoc]; exact j1, by rw [List.length_append]; simp; omega⟩, by rw [List.map_append]; exact le_rek 7 29 ⟨rfl, rfl, rfl, rfl, rfl, rfl, trivial⟩ ⟨rfl, trivial⟩ rfl rfl rfl rfl ⟨rfl, trivial⟩⟩)))))))
      · rw [if_neg (by rw [c10]; simp)] at j1
        exact ok_skip ⟨q, ⟨j1, by omega⟩, le_sub ⟨rfl, rfl, rfl, rfl, rfl, rfl, trivial⟩ ⟨rfl, trivial⟩⟩
    · refine ok_last fun K12 h12 => ok_region rfl (
        q_add rfl rfl (by omega) (q_mv _ rfl (run_nil (h12 _ ⟨(k + 1, q'), by simp only; omega, J, le_sub ⟨rfl, rfl, rfl, rfl, rfl, rfl, trivial⟩ ⟨rfl, trivial⟩⟩))))
  · rw [List.drop_of_length_le (by have : ¬ ((k : Int) < l.length) := by simpa using c7
                                   omega)] at j1
    have j3 : q = cutF f t l := by rw [← j1]; simp [cutF]
    refine ok_exit (h3 _ ?_)
    refine ok_seq fun K13 h13 => ok_region rfl (q_mo _ rfl (q_ao _ rfl (run_nil (h13 _ ?_))))
    exact ok_ret ⟨_, rfl, by rw [← j3]; rfl⟩
end Go.Ring

/- What stands of a block's series, what is chosen of series: the program and the reference. No condition beyond the lengths. -/
set_option maxRecDepth 100000
set_option linter.unusedVariables false
set_option linter.unusedSimpArgs false
namespace Go.Ring
open Go Go.RowKit Go.Eager Go.Abs Go.Proofs
end Go.Ring

/- What of a series no stone takes, what is chosen of series and of a block: the reference. No condition beyond the lengths. -/
set_option maxRecDepth 100000
set_option linter.unusedVariables false
set_option linter.unusedSimpArgs false
namespace Go.Ring
open Go Go.RowKit Go.Eager Go.Abs Go.Proofs
theorem rep_nil0 {w : World} {O : Nat → Prop} {n : Nat} {v : Value} (h : Rep w O (.raw (.slice none 0 0)) v) : Rep w O (.sl n []) v := by
  rw [rep_raw' h]; exact .nil n none 0
end Go.Ring
