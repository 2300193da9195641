/- Parts of the proof, laid together: A8 L3 B1 B2 B3 B4 B5. No condition. -/
import Derived.Test.YtanilephcohjkaaGreatSg7
import Derived.Test.YtanilephcohjkaaGreatU1
import Derived.Test.YtanilephcohjkaaGreatEg3
/- Matchers: what the program and the reference say of them. No condition beyond the lengths. -/
namespace Go.Ring
open Go Go.RowKit Go.Eager Go.Abs Go.Proofs
set_option maxRecDepth 100000
set_option linter.unusedVariables false
set_option linter.unusedSimpArgs false
def eqS (a b : ByteArray) : Bool := decide (a.data.toList = b.data.toList)
/-- One matcher and a value. -/
def mat1 (m : Matcher) (v : ByteArray) : Bool := if m.op_ = 1 then eqS v m.value else if m.op_ = 2 then !eqS v m.value else if m.op_ = 3 then patB m.value v else !patB m.value v
def gmB (m : Matcher) : Bool := nameB m.name && decide (1 ≤ m.op_) && decide (m.op_ ≤ 4) && (decide ((m.value.size : Int) ≤ 100) && printedB m.value) && (decide (m.op_ < 3) || patOk m.value)
/-- All matchers and labels. -/
def matB (ms : List Matcher) (l : List Label) : Bool := ms.all fun m => mat1 m (valOf l m.name)
/-- Good matchers. -/
def gmsB (ms : List Matcher) : Bool := decide ((ms.length : Int) ≤ 10) && ms.all gmB
/-- The first place of one that is so; -1. -/
def fstI {α : Type} (p : α → Bool) : List α → Nat → Int
  | [], _ => -1
  | x :: l, k => if p x then k else fstI p l (k + 1)
end Go.Ring

/- Where the series stand that fit matchers; the law. No condition. -/
set_option maxRecDepth 100000
set_option linter.unusedVariables false
set_option linter.unusedSimpArgs false
namespace Go.Ring
open Go Go.RowKit Go.Eager Go.Abs Go.Proofs
theorem ok_le {Γ : Ctx} {c : Code} {σ σ' : St} {Q : Exit → St → Prop} (h : Le Γ σ' σ) (hok : Ok Γ c σ' Q) : Ok Γ c σ Q := fun a w I => hok a w (h a w I)
def lookF (ms : List Matcher) : List Series → Nat → List Int
  | [], _ => []
  | x :: l, k => if matB ms x.labels = true then (k : Int) :: lookF ms l (k + 1) else lookF ms l (k + 1)
end Go.Ring

/- Copies of rows, filters, cuts of samples, what stones cover. No condition beyond the lengths. -/
set_option maxRecDepth 100000
set_option linter.unusedVariables false
set_option linter.unusedSimpArgs false
namespace Go.Ring
open Go Go.RowKit Go.Eager Go.Abs Go.Proofs
theorem f166_t (x : List Label) (hx : x.length ≤ 1048576) : PFnT Tryz.prog 166 [eLabelS x] (eLabelS x) := by
  refine fnp_ok (n := 8) Tryz.func166 rfl rfl rfl (Nat.le_of_ble_eq_true rfl) rfl fun w0 O => ?_
  refine ok_seq fun K1 h1 => ok_region rfl (q_as _ rfl (run_nil (h1 _ ?_))); clear h1 K1
  refine ok_seq fun K2 h2 => ?_
  refine ok_seq fun K3 h3 => ok_region rfl (q_mv _ rfl (q_eqn Tryz.underlying78 rfl (fun b hb => run_nil (h3 _ ?_)))); clear h3 K3
  refine ok_cond rfl (fun c4 => ?_) (fun c4 => ?_)
  · have hn : x = [] := by have := hb c4; simpa using this
    subst hn
    refine ok_seq fun K5 h5 => ?_
    refine ok_region rfl (q_as _ rfl (run_nil (h5 _ ?_)))
    clear h5 K5
    exact ok_nilT 2 (ok_ret ⟨_, ⟨_, _, rfl, rfl, rfl⟩, .tr _ _ _ _, fun b hb => (zn_tr hb).elim⟩)
  · refine ok_skip (h2 _ ?_)
    rcases x with _ | ⟨u, x⟩
    · refine ok_seq fun K6 h6 => ok_region rfl (q_lito0 _ el78 ze190 (by decide) rfl rfl (q_mv _ rfl (q_appE el78 rfl rfl rfl (q_ao _ rfl (run_nil (h6 _ ?_)))))); clear h6 K6
      obtain ⟨g1, g2, g3⟩ := gd_flatL (rs := ([] : List Label).map eLabel) (fun r hr => by obtain ⟨y, _, rfl⟩ := List.mem_map.1 hr; rfl)
      refine ok_treed (k := 5) (n := 2) (T := 190) (rs := ([] : List Label).map eLabel) (ss := ([] : List Label).map eLabel) rfl rfl g1 g2 (fun r hr b hb => (g3 r hr b hb).elim) (fun Z v hZ => ?_)
      exact ok_ret ⟨_, ⟨_, _, rfl, rfl, rfl⟩, .tr Z 2 _ v, fun b hb => (hZ b (zn_tr hb)).elim id fun h => h.elim⟩
    · refine ok_seq fun K6 h6 => ok_region rfl (q_lito0 _ el78 ze190 (by decide) rfl rfl (q_mv _ rfl (q_app _ el78 ze190 rfl by190 rfl rfl rfl rfl rfl (by simp) (by intro s hs; obtain ⟨y, _, rfl⟩ := List.mem_map.1 hs; exact .inl ⟨_, rfl⟩) (by simp only [List.length_map, List.length_cons, List.length_nil] at hx ⊢; unfold maxLen; omega) (by simp only [List.length_map, List.length_cons, List.length_nil] at hx ⊢; omega) (q_ao _ rfl (run_nil (h6 _ ?_)))))); clear h6 K6
      obtain ⟨g1, g2, g3⟩ := gd_flatL (rs := (u :: x).map eLabel) (fun r hr => by obtain ⟨y, _, rfl⟩ := List.mem_map.1 hr; rfl)
      refine ok_treed (k := 7) (n := 2) (T := 190) (rs := (u :: x).map eLabel) (ss := (u :: x).map eLabel) rfl rfl g1 g2 (fun r hr b hb => (g3 r hr b hb).elim) (fun Z v hZ => ?_)
      exact ok_ret ⟨_, ⟨_, _, rfl, rfl, rfl⟩, .tr Z 2 _ v, fun b hb => (hZ b (zn_tr hb)).elim id fun h => h.elim⟩
theorem f153_t (x : List Label) (hx : x.length ≤ 1048576) : PFnT Tryz.prog 153 [eLabelS x] (eLabelS x) := by
  refine fnp_ok (n := 7) Tryz.func153 rfl rfl rfl (Nat.le_of_ble_eq_true rfl) rfl fun w0 O => ?_
  refine ok_seq fun K1 h1 => ok_region rfl (q_as _ rfl (run_nil (h1 _ ?_))); clear h1 K1
  refine ok_seq fun K2 h2 => ok_region rfl (q_an (n := 2) 190 (by decide) rfl rfl rfl (run_nil (h2 _ ?_))); clear h2 K2
  rcases x with _ | ⟨u, x⟩
  · refine ok_seq fun K3 h3 => ok_region rfl (q_mo _ rfl (q_mv _ rfl (q_appE el78 rfl rfl rfl (q_ao _ rfl (run_nil (h3 _ ?_)))))); clear h3 K3
    obtain ⟨g1, g2, g3⟩ := gd_flatL (rs := ([] : List Label).map eLabel) (fun r hr => by obtain ⟨y, _, rfl⟩ := List.mem_map.1 hr; rfl)
    refine ok_treed (k := 3) (n := 2) (T := 190) (rs := ([] : List Label).map eLabel) (ss := ([] : List Label).map eLabel) rfl rfl g1 g2 (fun r hr b hb => (g3 r hr b hb).elim) (fun Z v hZ => ?_)
    exact ok_ret ⟨_, ⟨_, _, rfl, rfl, rfl⟩, .tr Z 2 _ v, fun b hb => (hZ b (zn_tr hb)).elim id fun h => h.elim⟩
  · refine ok_seq fun K3 h3 => ok_region rfl (q_mo _ rfl (q_mv _ rfl (q_app _ el78 ze190 rfl by190 rfl rfl rfl rfl rfl (by simp) (by intro s hs; obtain ⟨y, _, rfl⟩ := List.mem_map.1 hs; exact .inl ⟨_, rfl⟩) (by simp only [List.length_map, List.length_cons, List.length_nil] at hx ⊢; unfold maxLen; omega) (by simp only [List.length_map, List.length_cons, List.length_nil] at hx ⊢; omega) (q_ao _ rfl (run_nil (h3 _ ?_)))))); clear h3 K3
    obtain ⟨g1, g2, g3⟩ := gd_flatL (rs := (u :: x).map eLabel) (fun r hr => by obtain ⟨y, _, rfl⟩ := List.mem_map.1 hr; rfl)
    refine ok_treed (k := 6) (n := 2) (T := 190) (rs := (u :: x).map eLabel) (ss := (u :: x).map eLabel) rfl rfl g1 g2 (fun r hr b hb => (g3 r hr b hb).elim) (fun Z v hZ => ?_)
    exact ok_ret ⟨_, ⟨_, _, rfl, rfl, rfl⟩, .tr Z 2 _ v, fun b hb => (hZ b (zn_tr hb)).elim id fun h => h.elim⟩
theorem built125 (p0 : Option Addr) (n0 c0 : Nat) (p1 : Option Addr) (n1 c1 : Nat) : Tryz.prog.built 125 [(0, .slice p0 n0 c0), (1, .slice p1 n1 c1)] = some #[.slice p0 n0 c0, .slice p1 n1 c1] := by kernel_rfl
theorem bl125 (x : Series) {Z0 : Nat → Prop} {v0 : Value} {Z1 : Nat → Prop} {v1 : Value} : BL Tryz.prog 125 [.tr Z0 (eLabelS x.labels) v0, .tr Z1 (eSampleS x.samples) v1] := by
  intro vs hv
  match vs, hv with
  | [w0, w1], hv =>
    obtain ⟨h0, h1, -⟩ := hv
    obtain ⟨rfl, p0, n0, c0, e0⟩ := h0
    obtain ⟨rfl, p1, n1, c1, e1⟩ := h1
    rw [e0]
    rw [e1]
    exact built125 p0 n0 c0 p1 n1 c1
/-- The samples of a span. -/
def cutF (f t : Int) (l : List Sample) : List Sample := l.filter fun u => decide (f ≤ u.time) && decide (u.time ≤ t)
theorem cutF_len (f t : Int) (l : List Sample) : (cutF f t l).length ≤ l.length := List.length_filter_le _ _
theorem f118_ok (l : List Sample) (hl : l.length ≤ 1048576) (f t : Int) : PFn Tryz.prog 118 [eSampleS l, int f, int t] (eSampleS (cutF f t l)) := by
  refine fn_ok' (n := 32) Tryz.func118 rfl rfl rfl (Nat.le_of_ble_eq_true rfl) rfl fun w0 O => ?_
  refine ok_seq fun K1 h1 => ok_region rfl (q_as _ rfl (run_nil (h1 _ ?_))); clear h1 K1
  refine ok_seq fun K2 h2 => ok_region rfl (q_an (n := 2) 122 (by decide) rfl rfl rfl (run_nil (h2 _ ?_))); clear h2 K2
  refine ok_seq fun K3 h3 => ?_
  refine ok_seq fun K4 h4 => ok_region rfl (q_mv _ rfl (q_len eS123 rfl (q_mv _ rfl (run_nil (h4 _ ?_))))); clear h4 K4
  rw [List.length_map]
  refine ok_block ?_
  refine ok_loop (fun (s : Nat × List Sample) => ⟨[(1, .sv (int f)), (2, .sv (int t)), (7, .own 7), (10, .sv (eSampleS l)), (11, .sv (int l.length)), (12, .sv (int s.1))], [(7, .row 2 122 (s.2.map eSample))]⟩) (fun s => s.2 ++ cutF f t (l.drop s.1) = cutF f t l ∧ s.2.length ≤ s.1) (fun s => l.length - s.1) (0, []) ⟨rfl, Nat.le_refl _⟩ (le_sub ⟨rfl, rfl, rfl, rfl, rfl, rfl, trivial⟩ ⟨rfl, trivial⟩) (fun s J => ?_)
  obtain ⟨k, q⟩ := s
  obtain ⟨j1, j2⟩ := J
  simp only at j1 j2
  refine ok_seq fun K5 h5 => ok_region rfl (q_bin _ _ _ rfl rfl rfl (run_nil (h5 _ ?_))); clear h5 K5
  refine ok_seq fun K6 h6 => ?_
  refine ok_cond rfl (fun c7 => ?_) (fun c7 => ?_)
  · refine ok_skip (h6 _ ?_)
    have hk : k < l.length := by simpa using c7
    obtain ⟨u, hu⟩ := sget hk
    have hd : cutF f t (l.drop k) = if (decide (f ≤ u.time) && decide (u.time ≤ t)) = true then u :: cutF f t (l.drop (k + 1)) else cutF f t (l.drop (k + 1)) := by
      rw [drop_cons hu]; unfold cutF; rw [List.filter_cons]
    rw [hd] at j1
    refine ok_seq_join (fun (q' : List Sample) => ⟨[(1, .sv (int f)), (2, .sv (int t)), (7, .own 7), (10, .sv (eSampleS l)), (11, .sv (int l.length)), (12, .sv (int k))], [(7, .row 2 122 (q'.map eSample))]⟩) (fun q' => q' ++ cutF f t (l.drop (k + 1)) = cutF f t l ∧ q'.length ≤ k + 1) ?_ (fun q' J => ?_)
    · refine ok_block ?_
      refine ok_seq fun K8 h8 => ok_region rfl (q_ia el123 rfl rfl (by omega) (mget (f := eSample) hu) (q_lds _ ag122 rfl sz122 (q_alloc _ ze122 rfl rfl rfl rfl (q_sts _ rfl rfl rfl sz122 (Nat.le_of_ble_eq_true rfl) rfl (run_nil (h8 _ ?_)))))); clear h8 K8
      refine ok_seq fun K9 h9 => ?_
      refine ok_region rfl (q_fap fd122_0 rfl (by decide) (q_ldb (.sv (int u.time)) ag3 rfl rfl rfl (q_mv _ rfl (q_bin _ _ _ rfl rfl rfl (q_mv _ rfl (q_and 4 4 rfl rfl rfl rfl rfl (fun hb25 =>
          q_fap fd122_0 rfl (by decide) (q_ldb (.sv (int u.time)) ag3 rfl rfl rfl (q_mv _ rfl (q_bin _ _ _ rfl rfl rfl (run_nil ⟨rfl, rfl, rfl, rfl⟩))))) (
        run_nil (h9 _ ?_))))))))
      clear h9 K9
      refine ok_cond rfl (fun c10 => ?_) (fun c10 => ?_)
      · rw [if_pos c10] at j1
        refine ok_last fun K11 h11 => ok_region rfl (
          q_mo _ rfl (q_ldbs ag122 rfl rfl sz122 rfl rfl (q_lit1 _ _ el123 ze122 (by decide) (by decide) rfl (.inl ⟨_, rfl⟩) rfl (q_app _ el123 ze122 rfl by122 rfl rfl rfl rfl rfl (by simp) (by intro s hs; simp at hs; subst hs; exact .inl ⟨_, rfl⟩) (by rw [List.length_map]; show q.length + 1 ≤ maxLen; unfold maxLen; omega) (by rw [List.length_map]; show (q.length + 1) * 16 ≤ _; omega) (
          q_ao _ rfl (run_nil (h11 _ ⟨q ++ [u], ⟨by rw [List.append_assoc]; exact j1, by rw [List.length_append]; simp; omega⟩, by rw [List.map_append]; exact le_rek 7 29 ⟨rfl, rfl, rfl, rfl, rfl, rfl, trivial⟩ ⟨rfl, trivial⟩ rfl rfl rfl rfl ⟨rfl, trivial⟩⟩)))))))
      · rw [if_neg (by rw [c10]; simp)] at j1
        exact ok_skip ⟨q, ⟨j1, by omega⟩, le_sub ⟨rfl, rfl, rfl, rfl, rfl, rfl, trivial⟩ ⟨rfl, trivial⟩⟩
    · refine ok_last fun K12 h12 => ok_region rfl (
        q_add rfl rfl (by omega) (q_mv _ rfl (run_nil (h12 _ ⟨(k + 1, q'), by simp only; omega, J, le_sub ⟨rfl, rfl, rfl, rfl, rfl, rfl, trivial⟩ ⟨rfl, trivial⟩⟩))))
  · rw [List.drop_of_length_le (by have : ¬ ((k : Int) < l.length) := by simpa using c7
                                   omega)] at j1
    have j3 : q = cutF f t l := by rw [← j1]; simp [cutF]
    refine ok_exit (h3 _ ?_)
    refine ok_seq fun K13 h13 => ok_region rfl (q_mo _ rfl (q_ao _ rfl (run_nil (h13 _ ?_)))); clear h13 K13
    exact ok_ret ⟨_, rfl, by rw [← j3]; rfl⟩
end Go.Ring

/- What stands of a block's series, what is chosen of series: the program and the reference. No condition beyond the lengths. -/
set_option maxRecDepth 100000
set_option linter.unusedVariables false
set_option linter.unusedSimpArgs false
namespace Go.Ring
open Go Go.RowKit Go.Eager Go.Abs Go.Proofs
end Go.Ring

/- What of a series no stone takes, what is chosen of series and of a block: the reference. No condition beyond the lengths. -/
set_option maxRecDepth 100000
set_option linter.unusedVariables false
set_option linter.unusedSimpArgs false
namespace Go.Ring
open Go Go.RowKit Go.Eager Go.Abs Go.Proofs
theorem rep_nil0 {w : World} {O : Nat → Prop} {n : Nat} {v : Value} (h : Rep w O (.raw (.slice none 0 0)) v) : Rep w O (.sl n []) v := by
  rw [rep_raw' h]; exact .nil n none 0
/-- Of series: the samples of a span, where matchers fit and there are any. -/
def selG (ms : List Matcher) (f t : Int) (s : Series) : Option Series := if 0 < (cutF f t s.samples).length ∧ matB ms s.labels = true then some ⟨s.labels, cutF f t s.samples⟩ else none
def selL (ms : List Matcher) (f t : Int) (l : List Series) : List Series := l.filterMap (selG ms f t)
end Go.Ring

/- What is chosen of a block: the program; both say the same. No condition beyond the lengths. -/
set_option maxRecDepth 100000
set_option linter.unusedVariables false
set_option linter.unusedSimpArgs false
namespace Go.Ring
open Go Go.RowKit Go.Eager Go.Abs Go.Proofs
theorem le_nil {Γ : Ctx} {t : List (Nat × LV)} {h : List (Nat × Ent)} (n k : Nat) (hk : t.lookup k = some (.sv (.raw (.slice none 0 0)))) : Le Γ ⟨(k, .sv (.sl n [])) :: t, h⟩ ⟨t, h⟩ := by
  rintro a w ⟨ρ, I⟩
  refine ⟨ρ, I.dfr, I.size, I.frm, fun k' lv hk' => ?_, I.ent, I.new, I.sep, I.out, I.inn⟩
  rw [List.lookup_cons] at hk'
  cases hq : (k' == k) with
  | false => simp only [hq] at hk'; exact I.tmp k' lv hk'
  | true =>
    simp only [hq, Option.some.injEq] at hk'
    subst hk'
    obtain rfl : k' = k := by simpa using hq
    exact rep_nil0 (I.tmp k' _ hk)
/-- Times rise. -/
def RisS (q : List Sample) : Prop := q.Pairwise fun a b => a.time < b.time
theorem cL_le {α : Type} {c : α → Nat} {m : Nat} : ∀ (l : List α), (∀ x ∈ l, c x ≤ m) → cL c l ≤ m * l.length
  | [], _ => by simp [cL]
  | x :: l, h => by
    have h1 := cL_le l fun y hy => h y (List.mem_cons_of_mem _ hy)
    have h2 := h x (List.mem_cons_self ..)
    rw [List.length_cons, Nat.mul_succ]
    simp only [cL]
    omega
theorem cSeries_le {s : Series} (h : SSeries s) : cSeries s ≤ 4194304 := by
  have h1 := cL_le (c := cLabel) (m := 2) s.labels fun _ _ => Nat.le_refl _
  have h2 := cL_le (c := cSample) (m := 2) s.samples fun _ _ => Nat.le_refl _
  have h3 := h.1.1
  have h4 := h.2
  unfold cSeries
  omega
end Go.Ring

/- Series laid together: the plain law. No condition. -/
set_option maxRecDepth 100000
set_option linter.unusedVariables false
set_option linter.unusedSimpArgs false
namespace Go.Ring
open Go Go.RowKit Go.Eager Go.Abs Go.Proofs
theorem cmpN_neg (a b : Int) : cmpN b a = - cmpN a b := by
  unfold cmpN
  split <;> split <;> first | omega | (split <;> omega)
theorem cmpT_neg : ∀ (a b : List UInt8), cmpT b a = - cmpT a b
  | [], [] => rfl
  | [], _ :: _ => rfl
  | _ :: _, [] => rfl
  | x :: a, y :: b => by
    unfold cmpT
    by_cases h : x = y
    · subst h; simp only [if_true]; exact cmpT_neg a b
    · rw [if_neg h, if_neg (fun e => h e.symm)]; exact cmpN_neg _ _
theorem cmpB_neg (a b : ByteArray) : cmpB b a = - cmpB a b := cmpT_neg _ _
theorem cmpLs_neg : ∀ a b : List Label, cmpLs b a = - cmpLs a b
  | [], [] => rfl
  | [], y :: m => by unfold cmpLs; exact cmpN_neg _ _
  | x :: l, [] => by unfold cmpLs; exact cmpN_neg _ _
  | x :: l, y :: m => by
    unfold cmpLs
    rw [cmpB_neg x.name y.name, cmpB_neg x.value y.value, cmpLs_neg l m]
    by_cases h1 : cmpB x.name y.name = 0
    · by_cases h2 : cmpB x.value y.value = 0
      · simp [h1, h2]
      · simp [h1, h2]
    · simp [h1]
theorem cmpLs_zero : ∀ a b : List Label, cmpLs a b = 0 ↔ a = b
  | [], [] => by simp [cmpLs, cmpN]
  | [], y :: m => by simp [cmpLs, cmpN] <;> omega
  | x :: l, [] => by simp [cmpLs, cmpN] <;> omega
  | x :: l, y :: m => by
    unfold cmpLs
    by_cases h1 : cmpB x.name y.name = 0
    · rw [if_neg (by simp [h1])]
      have e1 := cmpB_zero.1 h1
      by_cases h2 : cmpB x.value y.value = 0
      · rw [if_neg (by simp [h2]), cmpLs_zero l m]
        have e2 := cmpB_zero.1 h2
        cases x; cases y
        simp only at e1 e2
        subst e1 e2
        simp
      · rw [if_pos h2]
        have e2 : x.value ≠ y.value := fun e => h2 (cmpB_zero.2 e)
        constructor
        · intro h; exact absurd h h2
        · intro h; simp only [List.cons.injEq] at h; exact absurd (congrArg Label.value h.1) e2
    · rw [if_pos h1]
      have e1 : x.name ≠ y.name := fun e => h1 (cmpB_zero.2 e)
      constructor
      · intro h; exact absurd h h1
      · intro h; simp only [List.cons.injEq] at h; exact absurd (congrArg Label.name h.1) e1
/-- Two rows of samples laid together; of two at one time the first. -/
def mg : List Sample → List Sample → List Sample
  | [], b => b
  | x :: a, [] => x :: a
  | x :: a, y :: b => if x.time < y.time then x :: mg a (y :: b) else if x.time = y.time then x :: mg a b else y :: mg (x :: a) b
termination_by a b => a.length + b.length
theorem mg_nil (a : List Sample) : mg a [] = a := by cases a <;> rw [mg]
theorem mg_lt {x y : Sample} {a b : List Sample} (h : x.time < y.time) : mg (x :: a) (y :: b) = x :: mg a (y :: b) := by rw [mg, if_pos h]
theorem mg_eq {x y : Sample} {a b : List Sample} (h : x.time = y.time) : mg (x :: a) (y :: b) = x :: mg a b := by rw [mg, if_neg (by omega), if_pos h]
theorem mg_gt {x y : Sample} {a b : List Sample} (h : y.time < x.time) : mg (x :: a) (y :: b) = y :: mg (x :: a) b := by rw [mg, if_neg (by omega), if_neg (by omega)]
theorem mg_len (a b : List Sample) : (mg a b).length ≤ a.length + b.length := by
  induction a, b using mg.induct with
  | case1 b => simp [mg]
  | case2 x a => rw [mg_nil]; simp
  | case3 x a y b h ih => rw [mg_lt h]; simp only [List.length_cons] at *; omega
  | case4 x a y b h1 h2 ih => rw [mg_eq h2]; simp only [List.length_cons] at *; omega
  | case5 x a y b h1 h2 ih => rw [mg_gt (by omega)]; simp only [List.length_cons] at *; omega
/-- One series into a row of series. -/
def insS (acc : List Series) (u : Series) : List Series :=
  if fnd u.labels acc = true then (match acc[lowI u.labels acc]? with | some x => acc.set (lowI u.labels acc) ⟨x.labels, mg x.samples u.samples⟩ | none => acc)
  else insAt acc (lowI u.labels acc) u
def mrgS (a b : List Series) : List Series := b.foldl insS a
theorem fnd_get {t : List Label} {l : List Series} (h : fnd t l = true) : ∃ x, l[lowI t l]? = some x ∧ cmpLs x.labels t = 0 := by
  unfold fnd at h
  split at h
  · rename_i x hx; exact ⟨x, hx, of_decide_eq_true h⟩
  · cases h
/-- How much there is of series and samples. -/
def wt : List Series → Nat
  | [] => 0
  | s :: l => s.samples.length + 1 + wt l
theorem wt_len : ∀ l : List Series, l.length ≤ wt l
  | [] => Nat.le_refl _
  | s :: l => by have := wt_len l; simp only [List.length_cons, wt]; omega
theorem wt_mem : ∀ {l : List Series} {s : Series}, s ∈ l → s.samples.length + 1 ≤ wt l
  | x :: l, s, h => by
    rcases List.mem_cons.1 h with rfl | h
    · simp only [wt]; omega
    · have := wt_mem h; simp only [wt]; omega
/-- Labels within bounds. -/
def LbOk (l : List Series) : Prop := ∀ y ∈ l, y.labels.length ≤ 1048576 ∧ ∀ z ∈ y.labels, SLabel z
theorem lb_ss {l : List Series} (h : LbOk l) (hw : wt l ≤ 1048576) : l.length ≤ 1048576 ∧ ∀ y ∈ l, SSeries y :=
  ⟨Nat.le_trans (wt_len l) hw, fun y hy => ⟨h y hy, by have := wt_mem hy; omega⟩⟩
theorem ss_lb {l : List Series} (h : ∀ y ∈ l, SSeries y) : LbOk l := fun y hy => (h y hy).1
theorem LbOk.take {l : List Series} (h : LbOk l) (k : Nat) : LbOk (l.take k) := fun y hy => h y (List.mem_of_mem_take hy)
/-- What a size takes away. -/
def GW (f : Int → Int) (c : Nat) : Prop := ∀ n, 0 ≤ f n → f n + c ≤ n
theorem take_gw (m : Nat) : GW (fun n => take n m) m := by
  intro n hn; simp only [take] at *; split at hn
  · omega
  · rename_i h; rw [if_neg h]; omega
theorem stp_gw {f g : Int → Int} {a b : Nat} (hf : GW f a) (hg : GW g b) : GW (stp f g) (a + b) := by
  intro n hn
  unfold stp at hn ⊢
  split at hn
  · omega
  · rename_i h
    rw [if_neg h]
    have h1 := hg _ hn
    have h2 := hf n (by omega)
    omega
def sumF {α : Type} (c : α → Nat) : List α → Nat
  | [] => 0
  | x :: l => c x + sumF c l
theorem szAll_gw {α : Type} {f : α → Int → Int} {c : α → Nat} (hf : ∀ x, GW (f x) (c x)) : ∀ (l : List α) (n : Int), 0 ≤ szAll f l n → szAll f l n + sumF c l ≤ n
  | [], n, _ => by simp [szAll, sumF]
  | x :: l, n, h => by
    unfold szAll at h ⊢
    split at h
    · omega
    · rename_i h2
      rw [if_neg h2]
      have h3 := szAll_gw hf l _ h
      have h4 := hf x n (by omega)
      simp only [sumF]
      omega
theorem szSl_gw {α : Type} {f : α → Int → Int} {c : α → Nat} (hf : ∀ x, GW (f x) (c x)) (l : List α) : GW (szSl f l) (l.length + sumF c l) := by
  intro n hn
  unfold szSl at hn ⊢
  split at hn
  · omega
  · rename_i h
    rw [if_neg h]
    have h3 := szAll_gw hf l _ hn
    have h4 := take_gw l.length n (by simp only at *; omega)
    simp only at h4
    omega
theorem gw_le {f : Int → Int} {a b : Nat} (h : GW f a) (hb : b ≤ a) : GW f b := fun n hn => by have := h n hn; omega
theorem zLabel_gw (x : Label) : GW (zLabel x) 0 := gw_le (stp_gw (take_gw x.name.size) (take_gw x.value.size)) (Nat.zero_le _)
theorem zSeries_gw (x : Series) : GW (zSeries x) x.samples.length := gw_le (stp_gw (szSl_gw zLabel_gw x.labels) (take_gw x.samples.length)) (by omega)
theorem sumF_wt : ∀ l : List Series, l.length + sumF (fun s => s.samples.length) l = wt l
  | [] => rfl
  | s :: l => by have := sumF_wt l; simp only [List.length_cons, sumF, wt]; omega
theorem zSeriesS_gw (l : List Series) : GW (zSeriesS l) (wt l) := gw_le (szSl_gw zSeries_gw l) (by have := sumF_wt l; omega)
theorem sumF_app {α : Type} (c : α → Nat) : ∀ a b : List α, sumF c (a ++ b) = sumF c a + sumF c b
  | [], b => by simp [sumF]
  | x :: a, b => by simp only [List.cons_append, sumF, sumF_app c a b]; omega
theorem sumF_take {α : Type} (c : α → Nat) {l : List α} {k : Nat} {x : α} (h : l[k]? = some x) : sumF c (l.take (k + 1)) = sumF c (l.take k) + c x := by
  rw [List.take_add_one, h, Option.toList_some, sumF_app]; simp [sumF]
theorem sumF_take_le {α : Type} (c : α → Nat) (l : List α) (k : Nat) : sumF c (l.take k) ≤ sumF c l := by
  have := sumF_app c (l.take k) (l.drop k)
  rw [List.take_append_drop] at this; omega
end Go.Ring
