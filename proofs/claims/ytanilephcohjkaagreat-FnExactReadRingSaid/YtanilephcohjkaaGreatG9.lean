/- The order of labels; where a series stands among sorted ones; how wide a block is. No condition. -/
import Derived.Test.YtanilephcohjkaaGreatG7
namespace Go.Ring
open Go Go.RowKit Go.Eager Go.Abs Go.Proofs
set_option maxRecDepth 100000
set_option linter.unusedVariables false
set_option linter.unusedSimpArgs false
@[reducible] def fv (f : Nat) : SV := .raw (.func (.func f) #[] #[])
theorem toList_ext {a b : ByteArray} (h : a.data.toList = b.data.toList) : a = b := by
  cases a; cases b; simp only at h; congr; exact Array.ext' h
theorem cmpB_zero {a b : ByteArray} : cmpB a b = 0 ↔ a = b := ⟨fun h => toList_ext ((cmpT_zero _ _).1 h), fun h => by subst h; exact (cmpT_zero _ _).2 rfl⟩
theorem cmpN_lt {a b : Nat} (h : cmpN (a : Int) (b : Int) < 0) : a < b := by
  unfold cmpN at h
  split at h
  · omega
  · split at h <;> omega
theorem cmpT_trans : ∀ (a b c : List UInt8), cmpT a b < 0 → cmpT b c < 0 → cmpT a c < 0
  | [], [], _, h, _ => by simp [cmpT] at h
  | [], _ :: _, [], _, h => by simp [cmpT] at h
  | [], _ :: _, _ :: _, _, _ => by simp [cmpT]
  | _ :: _, [], _, h, _ => by simp [cmpT] at h
  | _ :: _, _ :: _, [], _, h => by simp [cmpT] at h
  | x :: a, y :: b, z :: c, h1, h2 => by
    unfold cmpT at *
    by_cases hxy : x = y
    · subst hxy
      by_cases hxz : x = z
      · subst hxz; simp only [if_true] at *; exact cmpT_trans a b c h1 h2
      · simp only [hxz, if_false, if_true] at *; exact h2
    · by_cases hyz : y = z
      · subst hyz; simp only [hxy, if_false, if_true] at *; exact h1
      · simp only [hxy, hyz, if_false] at h1 h2
        have h3 : x.toNat < y.toNat := cmpN_lt h1
        have h4 : y.toNat < z.toNat := cmpN_lt h2
        have h5 : x ≠ z := by rintro rfl; omega
        simp only [h5, if_false]
        unfold cmpN; rw [if_pos (by omega)]; decide
theorem cmpB_trans {a b c : ByteArray} (h1 : cmpB a b < 0) (h2 : cmpB b c < 0) : cmpB a c < 0 := cmpT_trans _ _ _ h1 h2
theorem cmpLs_trans : ∀ (a b c : List Label), cmpLs a b < 0 → cmpLs b c < 0 → cmpLs a c < 0
  | [], [], _, h, _ => by simp [cmpLs, cmpN] at h
  | [], _ :: _, [], _, h => by simp [cmpLs, cmpN] at h <;> omega
  | [], _ :: _, _ :: _, _, _ => by simp [cmpLs, cmpN] <;> omega
  | _ :: _, [], _, h, _ => by simp [cmpLs, cmpN] at h <;> omega
  | _ :: _, _ :: _, [], _, h => by simp [cmpLs, cmpN] at h <;> omega
  | x :: a, y :: b, z :: c, h1, h2 => by
    unfold cmpLs at *
    by_cases hn : cmpB x.name y.name = 0
    · rw [cmpB_zero.1 hn]
      rw [if_neg (by simp [hn])] at h1
      by_cases hn2 : cmpB y.name z.name = 0
      · rw [if_neg (by simp [hn2])] at h2 ⊢
        by_cases hv : cmpB x.value y.value = 0
        · rw [cmpB_zero.1 hv]
          rw [if_neg (by simp [hv])] at h1
          by_cases hv2 : cmpB y.value z.value = 0
          · rw [if_neg (by simp [hv2])] at h2 ⊢
            exact cmpLs_trans a b c h1 h2
          · rw [if_pos hv2] at h2 ⊢; exact h2
        · rw [if_pos hv] at h1
          by_cases hv2 : cmpB y.value z.value = 0
          · rw [← cmpB_zero.1 hv2, if_pos hv]; exact h1
          · rw [if_pos hv2] at h2
            have := cmpB_trans h1 h2
            rw [if_pos (by omega)]; exact this
      · rw [if_pos hn2] at h2 ⊢; exact h2
    · rw [if_pos hn] at h1
      by_cases hn2 : cmpB y.name z.name = 0
      · rw [← cmpB_zero.1 hn2, if_pos hn]; exact h1
      · rw [if_pos hn2] at h2
        have := cmpB_trans h1 h2
        rw [if_pos (by omega)]; exact this
/-- Sorted by their labels, none twice. -/
def Srt (l : List Series) : Prop := ∀ (i j : Nat) (x y : Series), i < j → l[i]? = some x → l[j]? = some y → cmpLs x.labels y.labels < 0
theorem srt_of {l : List Series} (h : ∀ i x, l[i]? = some x → ∀ p, 0 < i → l[i - 1]? = some p → cmpLs p.labels x.labels < 0) : Srt l := by
  intro i j x y hij hx hy
  induction j generalizing y with
  | zero => omega
  | succ j ih =>
    obtain ⟨p, hp⟩ := sget (l := l) (i := j) (by have := slt hy; omega)
    have h1 := h (j + 1) y hy p (by omega) hp
    rcases Nat.lt_or_ge i j with hlt | hge
    · exact cmpLs_trans _ _ _ (ih p hlt hp) h1
    · obtain rfl : i = j := by omega
      rw [hx] at hp; cases hp; exact h1
theorem SeriesOk.srt {l : List Series} (h : SeriesOk l) : Srt l := srt_of fun i x hx p h0 hp => (h.2 i x hx).2.2.2.2 p h0 hp
/-- How many stand ahead of t. -/
def lowI (t : List Label) : List Series → Nat
  | [] => 0
  | x :: l => if cmpLs x.labels t < 0 then lowI t l + 1 else 0
def fnd (t : List Label) (l : List Series) : Bool := match l[lowI t l]? with | some x => decide (cmpLs x.labels t = 0) | none => false
theorem lowI_le (t : List Label) : ∀ l : List Series, lowI t l ≤ l.length
  | [] => Nat.le_refl _
  | x :: l => by unfold lowI; have := lowI_le t l; split <;> simp; omega
theorem lowI_eq (t : List Label) : ∀ (l : List Series) (k : Nat), k ≤ l.length → (∀ i x, i < k → l[i]? = some x → cmpLs x.labels t < 0) → (∀ x, l[k]? = some x → ¬ cmpLs x.labels t < 0) → lowI t l = k
  | [], k, hk, _, _ => by simp at hk; subst hk; rfl
  | x :: l, 0, _, _, h2 => by unfold lowI; rw [if_neg (h2 x rfl)]
  | x :: l, k + 1, hk, h1, h2 => by
    unfold lowI
    rw [if_pos (h1 0 x (by omega) rfl), lowI_eq t l k (by simpa using hk) (fun i y hi hy => h1 (i + 1) y (by omega) (by simpa using hy)) (fun y hy => h2 y (by simpa using hy))]
theorem fnd_at {t : List Label} {l : List Series} {k : Nat} (h : lowI t l = k) {x : Series} (hx : l[k]? = some x) : fnd t l = decide (cmpLs x.labels t = 0) := by unfold fnd; rw [h, hx]
theorem fnd_out {t : List Label} {l : List Series} {k : Nat} (h : lowI t l = k) (hk : l.length ≤ k) : fnd t l = false := by unfold fnd; rw [h, List.getElem?_eq_none hk]
theorem shr1 {n m : Int} (h : n / 2 = m) : vBin .shr (.int .u64 n) (.int .u64 1) = some (.int .u64 m) := by subst h; rfl
def WideI (b l : Int) : Prop := 1 ≤ b ∧ b ≤ 1000000 ∧ 1 ≤ l ∧ l ≤ 4
instance (b l : Int) : Decidable (WideI b l) := by unfold WideI; infer_instance
def widI (b l : Int) : Int := if WideI b l then (if l = 1 then b else if l = 2 then 3 * b else if l = 3 then 9 * b else 27 * b) else 0
theorem f117_ok (l : List Series) (hl : l.length ≤ 1048576 ∧ ∀ y ∈ l, SSeries y) (t : List Label) (ht : t.length ≤ 1048576 ∧ ∀ y ∈ t, SLabel y) : PFn Tryz.prog 117 [eSeriesS l, eLabelS t] (.tup [int (lowI t l), bool (fnd t l)]) := by
  have hl1 := hl.1
  refine fn_ok' (n := 29) Tryz.func117 rfl rfl rfl (Nat.le_of_ble_eq_true rfl) rfl fun w0 O => ?_
  refine ok_seq fun K1 h1 => ok_region rfl (q_as _ rfl (q_as _ rfl (run_nil (h1 _ ?_)))); clear h1 K1
  refine ok_seq fun K2 h2 => ?_
  refine ok_seq fun K3 h3 => ok_region rfl (q_mv _ rfl (q_len eS63 rfl (q_mv _ rfl (run_nil (h3 _ ?_))))); clear h3 K3
  simp only [List.length_map]
  refine ok_block ?_
  refine ok_loop (fun (k : Nat) => ⟨[(0, .sv (eSeriesS l)), (1, .sv (eLabelS t)), (9, .sv (eSeriesS l)), (10, .sv (int l.length)), (11, .sv (int k))], []⟩) (fun k => k ≤ l.length ∧ ∀ i x, i < k → l[i]? = some x → cmpLs x.labels t < 0) (fun k => l.length - k) 0 ⟨Nat.zero_le _, fun i x h => by omega⟩ (le_same ⟨rfl, rfl, rfl, rfl, rfl, trivial⟩) (fun k J => ?_)
  obtain ⟨jk, J⟩ := J
  refine ok_seq fun K4 h4 => ok_region rfl (q_bin _ _ _ rfl rfl rfl (run_nil (h4 _ ?_))); clear h4 K4
  refine ok_seq fun K5 h5 => ?_
  refine ok_cond rfl (fun c6 => ?_) (fun c6 => ?_)
  · refine ok_skip (h5 _ ?_)
    have hk : k < l.length := by simpa using c6
    obtain ⟨u, hu⟩ := sget hk
    refine ok_seq fun K7 h7 => ?_
    refine ok_block ?_
    refine ok_seq fun K8 h8 => ok_region rfl (q_mv _ rfl (q_ia el63 rfl rfl (by omega) (mget hu) (q_lds _ ag125 rfl sz125 (q_alloc _ ze125 rfl rfl rfl rfl (q_as _ rfl (q_sts _ rfl rfl rfl sz125 (Nat.le_of_ble_eq_true rfl) rfl (run_nil (h8 _ ?_)))))))); clear h8 K8
    refine ok_seq fun K9 h9 => ok_region rfl (q_fap fd125_0 rfl (by decide) (q_ldb _ ag78 rfl rfl rfl (q_mv _ rfl (q_call (f176_ok u.labels t (hl.2 u (smem hu)).1 ht) cl176 rfl rfl (q_as _ rfl (run_nil (h9 _ ?_))))))); clear h9 K9
    refine ok_seq fun K10 h10 => ?_
    refine ok_seq fun K11 h11 => ok_region rfl (q_mv _ rfl (q_bin _ _ _ rfl rfl rfl (run_nil (h11 _ ?_)))); clear h11 K11
    refine ok_cond rfl (fun c12 => ?_) (fun c12 => ?_)
    · refine ok_seq fun K13 h13 => ?_
      refine ok_region rfl (q_mv _ rfl (q_as _ rfl (q_as _ rfl (run_nil (h13 _ ?_)))))
      clear h13 K13
      refine ok_ret ⟨_, rfl, ?_⟩
      have c := of_decide_eq_true c12
      have e := lowI_eq t l k jk J (fun x hx => by rw [hu] at hx; cases hx; omega)
      rw [fnd_at e hu, e, decide_eq_true c]; rfl
    · refine ok_skip (h10 _ ?_)
      refine ok_seq fun K14 h14 => ok_region rfl (q_mv _ rfl (q_bin _ _ _ rfl rfl rfl (run_nil (h14 _ ?_)))); clear h14 K14
      refine ok_cond rfl (fun c15 => ?_) (fun c15 => ?_)
      · refine ok_seq fun K16 h16 => ?_
        refine ok_region rfl (q_mv _ rfl (q_as _ rfl (q_as _ rfl (run_nil (h16 _ ?_)))))
        clear h16 K16
        refine ok_ret ⟨_, rfl, ?_⟩
        have c := of_decide_eq_false c12
        have d := of_decide_eq_true c15
        have e := lowI_eq t l k jk J (fun x hx => by rw [hu] at hx; cases hx; omega)
        rw [fnd_at e hu, e, decide_eq_false c]; rfl
      · refine ok_skip (h7 _ ?_)
        refine ok_region rfl (q_add rfl rfl (by omega) (q_mv _ rfl (run_nil (⟨k + 1, by omega, ⟨by omega, ?_⟩, le_sub ⟨rfl, rfl, rfl, rfl, rfl, trivial⟩ trivial⟩))))
        have c := of_decide_eq_false c12
        have d := of_decide_eq_false c15
        exact at_step (P := fun _ x => cmpLs x.labels t < 0) J hu (by omega)
  · refine ok_exit (h2 _ ?_)
    refine ok_seq fun K17 h17 => ok_region rfl (q_mv _ rfl (q_len eS63 rfl (q_as _ rfl (q_as _ rfl (run_nil (h17 _ ?_)))))); clear h17 K17
    simp only [List.length_map]
    refine ok_ret ⟨_, rfl, ?_⟩
    have c := of_decide_eq_false c6
    have e := lowI_eq t l k jk J (fun x hx => by have := slt hx; omega)
    rw [fnd_out e (by omega), e, show k = l.length by omega]; rfl
theorem f215_ok (x : Series) (hx : SSeries x) (t : List Label) (ht : t.length ≤ 1048576 ∧ ∀ y ∈ t, SLabel y) : PFn Tryz.prog 215 [eSeries x, eLabelS t] (int (cmpLs x.labels t)) := by
  refine fn_ok' (n := 9) Tryz.func215 rfl rfl rfl (Nat.le_of_ble_eq_true rfl) rfl fun w0 O => ?_
  refine ok_seq fun K1 h1 => ok_region rfl (q_boxs _ rfl (Nat.zero_lt_succ _) (q_as _ rfl (run_nil (h1 _ ?_)))); clear h1 K1
  refine ok_seq fun K2 h2 => ok_region rfl (q_fa _ fd125_0 rfl rfl (by decide) (q_ld _ ag78 rfl rfl (q_mv _ rfl (q_call (f169_ok x.labels t hx.1 ht) cl169 rfl rfl (q_as _ rfl (run_nil (h2 _ ?_))))))); clear h2 K2
  refine ok_ret ⟨_, rfl, ?_⟩
  rfl
theorem f214_ok (l : List Series) (hl : l.length ≤ 1048576 ∧ ∀ y ∈ l, SSeries y) (t : List Label) (ht : t.length ≤ 1048576 ∧ ∀ y ∈ t, SLabel y) (hs : Srt l) : PFn Tryz.prog 214 [eSeriesS l, eLabelS t, fv 215] (.tup [int (lowI t l), bool (fnd t l)]) := by
  have hl1 := hl.1
  refine fn_ok' (n := 49) Tryz.func214 rfl rfl rfl (Nat.le_of_ble_eq_true rfl) rfl fun w0 O => ?_
  refine ok_seq fun K1 h1 => ok_region rfl (q_as _ rfl (q_as _ rfl (run_nil (h1 _ ?_)))); clear h1 K1
  refine ok_seq fun K2 h2 => ok_region rfl (q_mv _ rfl (q_len eS63 rfl (q_as _ rfl (run_nil (h2 _ ?_))))); clear h2 K2
  simp only [List.length_map]
  refine ok_seq fun K3 h3 => ok_region rfl (q_mv _ rfl (q_as _ rfl (q_as _ rfl (run_nil (h3 _ ?_))))); clear h3 K3
  refine ok_seq fun K4 h4 => ?_
  refine ok_block ?_
  refine ok_loop (fun (s : Nat × Nat) => ⟨[(0, .sv (eSeriesS l)), (1, .sv (eLabelS t)), (2, .sv (fv 215)), (8, .sv (int l.length)), (9, .sv (int s.1)), (10, .sv (int s.2))], []⟩) (fun s => s.1 ≤ s.2 ∧ s.2 ≤ l.length ∧ (∀ i x, i < s.1 → l[i]? = some x → cmpLs x.labels t < 0) ∧ (∀ i x, s.2 ≤ i → l[i]? = some x → ¬ cmpLs x.labels t < 0)) (fun s => s.2 - s.1) (0, l.length) ⟨Nat.zero_le _, Nat.le_refl _, fun i x h => by simp only at h; omega, fun i x h hx => by have := slt hx; simp only at h; omega⟩ (le_same ⟨rfl, rfl, rfl, rfl, rfl, rfl, trivial⟩) (fun s J => ?_)
  obtain ⟨lo, hi⟩ := s
  obtain ⟨j1, j2, j3, j4⟩ := J
  simp only at j1 j2 j3 j4
  refine ok_seq fun K5 h5 => ?_
  refine ok_seq fun K6 h6 => ok_region rfl (q_mv _ rfl (q_mv _ rfl (q_bin _ _ _ rfl rfl rfl (run_nil (h6 _ ?_))))); clear h6 K6
  refine ok_cond rfl (fun c7 => ?_) (fun c7 => ?_)
  · refine ok_skip (h5 _ ?_)
    have c := of_decide_eq_true c7
    obtain ⟨mid, hmid, hm1, hm2⟩ : ∃ mid : Nat, ((lo : Int) + hi) / 2 = mid ∧ lo ≤ mid ∧ mid < hi := ⟨(lo + hi) / 2, by omega, by omega, by omega⟩
    obtain ⟨u, hu⟩ := sget (l := l) (i := mid) (by omega)
    refine ok_block ?_
    refine ok_seq fun K8 h8 => ok_region rfl (q_mv _ rfl (q_mv _ rfl (q_add rfl rfl (by omega) (q_cv aS3 ik172 rfl (IntWalk.u64_in _ (by omega)) (q_bin (.int .u64 ((lo : Int) + hi)) (.int .u64 1) (.int .u64 (mid : Int)) rfl rfl (shr1 hmid) (q_cv aS172 ik3 rfl (IntWalk.i64_in _ (by omega)) (q_as _ rfl (run_nil (h8 _ ?_))))))))); clear h8 K8
    refine ok_seq fun K9 h9 => ok_region rfl (q_mv _ rfl (q_mv _ rfl (q_mv _ rfl (q_ia el63 rfl rfl (by omega) (mget hu) (q_lds _ ag125 rfl sz125 (q_mv _ rfl (q_callv (f215_ok u (hl.2 u (smem hu)) t ht) cl215 rfl rfl rfl (q_bin _ _ _ rfl rfl rfl (run_nil (h9 _ ?_)))))))))); clear h9 K9
    refine ok_cond rfl (fun c10 => ?_) (fun c10 => ?_)
    · refine ok_last fun K20 h20 => ok_region rfl (q_mv _ rfl (q_add rfl rfl (by omega) (q_as _ rfl (run_nil (h20 _ ⟨(mid + 1, hi), by simp only; omega, ⟨by simp only; omega, j2, ?_, j4⟩, le_same ⟨rfl, rfl, rfl, rfl, rfl, rfl, trivial⟩⟩)))))
      intro i x hi hx
      have d := of_decide_eq_true c10
      rcases Nat.lt_or_ge i mid with h | h
      · exact cmpLs_trans _ _ _ (hs i mid x u h hx hu) d
      · simp only at hi; obtain rfl : i = mid := by omega
        rw [hu] at hx; cases hx; exact d
    · refine ok_last fun K20 h20 => ok_region rfl (q_mv _ rfl (q_as _ rfl (run_nil (h20 _ ⟨(lo, mid), by simp only; omega, ⟨hm1, by simp only; omega, j3, ?_⟩, le_same ⟨rfl, rfl, rfl, rfl, rfl, rfl, trivial⟩⟩))))
      intro i x hi hx d'
      have d := of_decide_eq_false c10
      simp only at hi
      rcases Nat.lt_or_ge mid i with h | h
      · exact d (cmpLs_trans _ _ _ (hs mid i u x h hu hx) d')
      · obtain rfl : i = mid := by omega
        rw [hu] at hx; cases hx; exact d d'
  · refine ok_exit (h4 _ ?_)
    have c := of_decide_eq_false c7
    obtain rfl : lo = hi := by omega
    have e := lowI_eq t l lo j2 j3 (fun x hx => j4 lo x (Nat.le_refl _) hx)
    obtain ⟨v, hv⟩ : ∃ v : Series, lo < l.length → l[lo]? = some v := by
      rcases Nat.lt_or_ge lo l.length with h | h
      · obtain ⟨v, hv⟩ := sget h; exact ⟨v, fun _ => hv⟩
      · exact ⟨⟨[], []⟩, fun h' => by omega⟩
    refine ok_seq fun K11 h11 => ?_
    refine ok_region rfl (q_mv _ rfl (q_mv _ rfl (q_mv _ rfl (q_bin _ _ _ rfl rfl rfl (q_mv _ rfl (q_and 8 8 rfl rfl rfl rfl rfl (fun hb48 =>
        q_mv _ rfl (q_mv _ rfl (q_mv _ rfl (q_ia el63 rfl rfl (by omega) (mget (hv (by have := of_decide_eq_true hb48; omega))) (q_lds _ ag125 rfl sz125 (q_mv _ rfl (q_callv (f215_ok v (hl.2 v (smem (hv (by have := of_decide_eq_true hb48; omega)))) t ht) cl215 rfl rfl rfl (q_bin _ _ _ rfl rfl rfl (run_nil ⟨rfl, rfl, rfl, rfl⟩))))))))) (
      q_as _ rfl (q_as _ rfl (run_nil (h11 _ ?_))))))))))
    clear h11 K11
    refine ok_ret ⟨_, rfl, ?_⟩
    have : (decide ((lo : Int) < l.length) && decide (cmpLs v.labels t = 0)) = fnd t l := by
      rcases Nat.lt_or_ge lo l.length with h | h
      · rw [fnd_at e (hv h), decide_eq_true (by omega)]; rfl
      · rw [fnd_out e h, decide_eq_false (by omega)]; rfl
    rw [← this, e]; rfl
theorem f163_ok (l : List Series) (hl : l.length ≤ 1048576 ∧ ∀ y ∈ l, SSeries y) (t : List Label) (ht : t.length ≤ 1048576 ∧ ∀ y ∈ t, SLabel y) (hs : Srt l) : PFn Tryz.prog 163 [eSeriesS l, eLabelS t] (.tup [int (lowI t l), bool (fnd t l)]) := by
  refine fn_ok' (n := 11) Tryz.func163 rfl rfl rfl (Nat.le_of_ble_eq_true rfl) rfl fun w0 O => ?_
  refine ok_seq fun K1 h1 => ok_region rfl (q_as _ rfl (q_as _ rfl (run_nil (h1 _ ?_)))); clear h1 K1
  refine ok_seq fun K2 h2 => ok_region rfl (q_mv _ rfl (q_mv _ rfl (q_call (f214_ok l hl t ht hs) cl214 rfl rfl (q_ext _ rfl rfl (q_ext _ rfl rfl (q_as _ rfl (q_as _ rfl (run_nil (h2 _ ?_))))))))); clear h2 K2
  refine ok_ret ⟨_, rfl, ?_⟩
  rfl
end Go.Ring
