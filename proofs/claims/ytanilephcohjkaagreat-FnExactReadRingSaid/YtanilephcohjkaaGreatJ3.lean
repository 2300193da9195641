/- Samples joined, of two at one time the greater: program and reference. No condition beyond the sizes. -/
import Derived.Test.YtanilephcohjkaaGreatJ2
import Derived.Test.YtanilephcohjkaaGreatB7
import Derived.Test.YtanilephcohjkaaGreatG15
import Derived.Test.YtanilephcohjkaaGreatEg3
set_option maxRecDepth 100000
set_option linter.unusedVariables false
set_option linter.unusedSimpArgs false
namespace Go.Ring
open Go Go.RowKit Go.Eager Go.Abs Go.Proofs
def lowS (p : Int) : List Sample → Nat
  | [] => 0
  | t :: r => if t.time < p then lowS p r + 1 else 0
theorem lowS_eq (p : Int) : ∀ (S : List Sample) (k : Nat), k ≤ S.length → (∀ i x, i < k → S[i]? = some x → x.time < p) → (∀ x, S[k]? = some x → ¬ x.time < p) → lowS p S = k
  | [], k, h, _, _ => by simp at h; subst h; rfl
  | t :: r, 0, _, _, h2 => by have := h2 t rfl; unfold lowS; rw [if_neg this]
  | t :: r, k + 1, h, h1, h2 => by
    have := h1 0 t (by omega) rfl
    unfold lowS
    rw [if_pos this, lowS_eq p r k (by simpa using h) (fun i x hi hx => h1 (i + 1) x (by omega) hx) (fun x hx => h2 x hx)]
theorem f257_ok (t : Sample) (p : Int) : PFn Tryz.prog 257 [eSample t, int p] (int (cmpI t.time p)) := by
  refine fn_ok' (n := 9) Tryz.func257 rfl rfl rfl (Nat.le_of_ble_eq_true rfl) rfl fun w0 O => ?_
  refine ok_seq fun K1 h1 => ok_region rfl (q_boxs _ rfl (Nat.zero_lt_succ _) (q_as _ rfl (run_nil (h1 _ ?_)))); clear h1 K1
  refine ok_seq fun K2 h2 => ok_region rfl (q_fa _ fd122_0 rfl rfl (by decide) (q_ld _ ag3 rfl rfl (q_mv _ rfl (q_call (f157_c t.time p) cl157 rfl rfl (q_as _ rfl (run_nil (h2 _ ?_))))))); clear h2 K2
  refine ok_ret ⟨_, rfl, ?_⟩
  rfl
def fndS (p : Int) (S : List Sample) : Bool := match S[lowS p S]? with | some t => decide (cmpI t.time p = 0) | none => false
theorem f256_ok (S : List Sample) (hl1 : S.length ≤ 1048576) (hs : S.Pairwise fun a b => a.time < b.time) (p : Int) : PFn Tryz.prog 256 [eSampleS S, int p, fw 257] (.tup [int (lowS p S), bool (fndS p S)]) := by
  have hs' : ∀ (i j : Nat) (x y : Sample), i < j → S[i]? = some x → S[j]? = some y → x.time < y.1 := by
    intro i j x y hij hx hy
    obtain ⟨hi, rfl⟩ := List.getElem?_eq_some_iff.1 hx
    obtain ⟨hj, rfl⟩ := List.getElem?_eq_some_iff.1 hy
    exact List.pairwise_iff_getElem.1 hs i j hi hj hij
  refine fn_ok' (n := 49) Tryz.func256 rfl rfl rfl (Nat.le_of_ble_eq_true rfl) rfl fun w0 O => ?_
  refine ok_seq fun K1 h1 => ok_region rfl (q_as _ rfl (q_as _ rfl (run_nil (h1 _ ?_)))); clear h1 K1
  refine ok_seq fun K2 h2 => ok_region rfl (q_mv _ rfl (q_len eS123 rfl (q_as _ rfl (run_nil (h2 _ ?_))))); clear h2 K2
  rw [List.length_map]
  refine ok_seq fun K3 h3 => ok_region rfl (q_mv _ rfl (q_as _ rfl (q_as _ rfl (run_nil (h3 _ ?_))))); clear h3 K3
  refine ok_seq fun K4 h4 => ?_
  refine ok_block ?_
  refine ok_loop (fun (s : Nat × Nat) => ⟨[(0, .sv (eSampleS S)), (1, .sv (int p)), (2, .sv (fw 257)), (8, .sv (int S.length)), (9, .sv (int s.1)), (10, .sv (int s.2))], []⟩) (fun s => s.1 ≤ s.2 ∧ s.2 ≤ S.length ∧ (∀ i x, i < s.1 → S[i]? = some x → x.time < p) ∧ (∀ i x, s.2 ≤ i → S[i]? = some x → ¬ x.time < p)) (fun s => s.2 - s.1) (0, S.length) ⟨Nat.zero_le _, Nat.le_refl _, fun i x h => by simp only at h; omega, fun i x h hx => by have := slt hx; simp only at h; omega⟩ (le_same ⟨rfl, rfl, rfl, rfl, rfl, rfl, trivial⟩) (fun s J => ?_)
  obtain ⟨lo, hi⟩ := s
  obtain ⟨j1, j2, j3, j4⟩ := J
  simp only at j1 j2 j3 j4
  refine ok_seq fun K5 h5 => ?_
  refine ok_seq fun K6 h6 => ok_region rfl (q_mv _ rfl (q_mv _ rfl (q_bin _ _ _ rfl rfl rfl (run_nil (h6 _ ?_))))); clear h6 K6
  refine ok_cond rfl (fun c7 => ?_) (fun c7 => ?_)
  · refine ok_skip (h5 _ ?_)
    have c := of_decide_eq_true c7
    obtain ⟨mid, hmid, hm1, hm2⟩ : ∃ mid : Nat, ((lo : Int) + hi) / 2 = mid ∧ lo ≤ mid ∧ mid < hi := ⟨(lo + hi) / 2, by omega, by omega, by omega⟩
    obtain ⟨u, hu⟩ := sget (l := S) (i := mid) (by omega)
    refine ok_block ?_
    refine ok_seq fun K8 h8 => ok_region rfl (q_mv _ rfl (q_mv _ rfl (q_add rfl rfl (by omega) (q_cv aS3 ik172 rfl (IntWalk.u64_in _ (by omega)) (q_bin (.int .u64 ((lo : Int) + hi)) (.int .u64 1) (.int .u64 (mid : Int)) rfl rfl (shr1w hmid) (q_cv aS172 ik3 rfl (IntWalk.i64_in _ (by omega)) (q_as _ rfl (run_nil (h8 _ ?_))))))))); clear h8 K8
    refine ok_seq fun K9 h9 => ok_region rfl (q_mv _ rfl (q_mv _ rfl (q_mv _ rfl (q_ia el123 rfl rfl (by omega) (mget (f := eSample) hu) (q_lds _ ag122 rfl sz122 (q_mv _ rfl (q_callv (f257_ok u p) cl257 rfl rfl rfl (q_bin _ _ _ rfl rfl rfl (run_nil (h9 _ ?_)))))))))); clear h9 K9
    refine ok_cond rfl (fun c10 => ?_) (fun c10 => ?_)
    · have d := cmpI_neg.1 (of_decide_eq_true c10)
      refine ok_last fun K20 h20 => ok_region rfl (q_mv _ rfl (q_add rfl rfl (by omega) (q_as _ rfl (run_nil (h20 _ ⟨(mid + 1, hi), by simp only; omega, ⟨by simp only; omega, j2, ?_, j4⟩, le_same ⟨rfl, rfl, rfl, rfl, rfl, rfl, trivial⟩⟩)))))
      intro i x hi hx
      rcases Nat.lt_or_ge i mid with h | h
      · have := hs' i mid x u h hx hu; omega
      · simp only at hi; obtain rfl : i = mid := by omega
        rw [hu] at hx; cases hx; exact d
    · have d : ¬ u.time < p := fun h => of_decide_eq_false c10 (cmpI_neg.2 h)
      refine ok_last fun K20 h20 => ok_region rfl (q_mv _ rfl (q_as _ rfl (run_nil (h20 _ ⟨(lo, mid), by simp only; omega, ⟨hm1, by simp only; omega, j3, ?_⟩, le_same ⟨rfl, rfl, rfl, rfl, rfl, rfl, trivial⟩⟩))))
      intro i x hi hx d'
      simp only at hi
      rcases Nat.lt_or_ge mid i with h | h
      · have := hs' mid i u x h hu hx; omega
      · obtain rfl : i = mid := by omega
        rw [hu] at hx; cases hx; exact d d'
  · refine ok_exit (h4 _ ?_)
    have c := of_decide_eq_false c7
    obtain rfl : lo = hi := by omega
    have e := lowS_eq p S lo j2 j3 (fun x hx => j4 lo x (Nat.le_refl _) hx)
    obtain ⟨v, hv⟩ : ∃ v : Sample, lo < S.length → S[lo]? = some v := by
      rcases Nat.lt_or_ge lo S.length with h | h
      · obtain ⟨v, hv⟩ := sget h; exact ⟨v, fun _ => hv⟩
      · exact ⟨⟨0, 0⟩, fun h' => by omega⟩
    refine ok_seq fun K11 h11 => ?_
    refine ok_region rfl (q_mv _ rfl (q_mv _ rfl (q_mv _ rfl (q_bin _ _ _ rfl rfl rfl (q_mv _ rfl (q_and 8 8 rfl rfl rfl rfl rfl (fun hb48 =>
        q_mv _ rfl (q_mv _ rfl (q_mv _ rfl (q_ia el123 rfl rfl (by omega) (mget (f := eSample) (hv (by have := of_decide_eq_true hb48; omega))) (q_lds _ ag122 rfl sz122 (q_mv _ rfl (q_callv (f257_ok v p) cl257 rfl rfl rfl (q_bin _ _ _ rfl rfl rfl (run_nil ⟨rfl, rfl, rfl, rfl⟩))))))))) (
      q_as _ rfl (q_as _ rfl (run_nil (h11 _ ?_))))))))))
    clear h11 K11
    refine ok_ret ⟨_, rfl, ?_⟩
    have : (decide ((lo : Int) < S.length) && decide (cmpI v.time p = 0)) = fndS p S := by
      unfold fndS
      rw [e]
      rcases Nat.lt_or_ge lo S.length with h | h
      · rw [hv h, decide_eq_true (by omega)]; rfl
      · rw [List.getElem?_eq_none h, decide_eq_false (by omega)]; rfl
    rw [← this, e]; rfl


theorem f217_ok (S : List Sample) (hl1 : S.length ≤ 1048576) (hs : SrtS S) (p : Int) : PFn Tryz.prog 217 [eSampleS S, int p] (.tup [int (lowS p S), bool (fndS p S)]) := by
  refine fn_ok' (n := 11) Tryz.func217 rfl rfl rfl (Nat.le_of_ble_eq_true rfl) rfl fun w0 O => ?_
  refine ok_seq fun K1 h1 => ok_region rfl (q_as _ rfl (q_as _ rfl (run_nil (h1 _ ?_)))); clear h1 K1
  refine ok_seq fun K2 h2 => ok_region rfl (q_mv _ rfl (q_mv _ rfl (q_call (f256_ok S hl1 hs p) cl256 rfl rfl (q_ext _ rfl rfl (q_ext _ rfl rfl (q_as _ rfl (q_as _ rfl (run_nil (h2 _ ?_))))))))); clear h2 K2
  exact ok_ret ⟨_, rfl, rfl⟩
theorem vat_app {t : Int} : ∀ (a b : List Sample), vat t (a ++ b) = (vat t a).or (vat t b)
  | [], b => by simp [vat]
  | x :: a, b => by
    simp only [List.cons_append, vat]
    split
    · simp
    · exact vat_app a b
theorem vat_no {t : Int} : ∀ {l : List Sample}, (∀ x ∈ l, x.time ≠ t) → vat t l = none
  | [], _ => rfl
  | s :: l, h => by
    unfold vat
    rw [if_neg (h s (List.mem_cons_self ..))]
    exact vat_no fun x hx => h x (List.mem_cons_of_mem _ hx)
theorem vat_take {t : Int} {b : List Sample} {k : Nat} {s : Sample} (h : b[k]? = some s) : vat t (b.take (k + 1)) = (vat t (b.take k)).or (if s.time = t then some s.value else none) := by
  rw [List.take_add_one, h, Option.toList_some, vat_app]
  simp only [vat]
theorem srt_get {l : List Sample} (h : SrtS l) {i j : Nat} {x y : Sample} (hij : i < j) (hx : l[i]? = some x) (hy : l[j]? = some y) : x.time < y.time := by
  obtain ⟨hi, rfl⟩ := List.getElem?_eq_some_iff.1 hx
  obtain ⟨hj, rfl⟩ := List.getElem?_eq_some_iff.1 hy
  exact List.pairwise_iff_getElem.1 h i j hi hj hij
theorem gB_step {b : List Sample} (sb : SrtS b) {k : Nat} {s : Sample} (h : b[k]? = some s) (x : Sample) : gB (b.take (k + 1)) x = if x.time = s.time then ⟨x.time, if x.value < s.value then s.value else x.value⟩ else gB (b.take k) x := by
  unfold gB
  rw [vat_take h]
  by_cases e : x.time = s.time
  · have e0 : vat x.time (b.take k) = none := vat_no fun y hy e2 => by
      obtain ⟨j, hj⟩ := List.getElem?_of_mem hy
      have hjl := slt hj
      rw [List.length_take] at hjl
      rw [List.getElem?_take, if_pos (by omega)] at hj
      have := srt_get sb (show j < k by omega) hj h
      omega
    rw [e0, if_pos e.symm, if_pos e]
    rfl
  · rw [if_neg (fun e2 => e e2.symm), if_neg e, Option.or_none]
theorem gB_same {b : List Sample} (sb : SrtS b) {k : Nat} {s : Sample} (h : b[k]? = some s) {x : Sample} (e : x.time = s.time) : gB (b.take k) x = x := by
  unfold gB
  rw [vat_no (t := x.time) (l := b.take k) (fun y hy e2 => by
    obtain ⟨j, hj⟩ := List.getElem?_of_mem hy
    have hjl := slt hj
    rw [List.length_take] at hjl
    rw [List.getElem?_take, if_pos (by omega)] at hj
    have := srt_get sb (show j < k by omega) hj h
    omega)]
/-- Where the next one's time stands; what is written there. -/
theorem gr_at {a b : List Sample} (sa : SrtS a) (sb : SrtS b) {k : Nat} {s : Sample} (h : b[k]? = some s) :
    ∃ (i : Nat) (x : Sample), (mg a b)[i]? = some x ∧ x.time = s.time ∧ ((mg a b).map (gB (b.take k)))[i]? = some x ∧ lowS s.time ((mg a b).map (gB (b.take k))) = i ∧ fndS s.time ((mg a b).map (gB (b.take k))) = true ∧
      ((mg a b).map (gB (b.take k))).set i ⟨x.time, if x.value < s.value then s.value else x.value⟩ = (mg a b).map (gB (b.take (k + 1))) := by
  have hM := mg_srt sa sb
  have hv : vat s.time b ≠ none := by
    obtain ⟨h1, h2⟩ : vat s.time (b.take (k + 1)) = some s.value ∧ True := by
      rw [vat_take h, if_pos rfl, vat_no (l := b.take k) (fun y hy e2 => by
        obtain ⟨j, hj⟩ := List.getElem?_of_mem hy
        have hjl := slt hj
        rw [List.length_take] at hjl
        rw [List.getElem?_take, if_pos (by omega)] at hj
        have := srt_get sb (show j < k by omega) hj h
        omega)]
      exact ⟨rfl, trivial⟩
    have e := vat_app (t := s.time) (b.take (k + 1)) (b.drop (k + 1))
    rw [List.take_append_drop, h1] at e
    rw [e]; simp
  obtain ⟨x, hx, hxt⟩ : ∃ x ∈ mg a b, x.time = s.time := by
    have e := vat_mg (t := s.time) sa sb
    cases hq : vat s.time (mg a b) with
    | none =>
      rw [hq] at e
      cases ha : vat s.time a with
      | none => rw [ha] at e; simp at e; exact absurd e.symm hv
      | some v => rw [ha] at e; simp at e
    | some v => obtain ⟨x, hx, h1, _⟩ := vat_get hq; exact ⟨x, hx, h1⟩
  obtain ⟨i, hi⟩ := List.getElem?_of_mem hx
  have hgi : ((mg a b).map (gB (b.take k)))[i]? = some x := by rw [List.getElem?_map, hi, Option.map_some, gB_same sb h hxt]
  have hlow : lowS s.time ((mg a b).map (gB (b.take k))) = i := by
    refine lowS_eq _ _ i (by have := slt hgi; omega) (fun j y hj hy => ?_) (fun y hy => ?_)
    · rw [List.getElem?_map] at hy
      cases hq : (mg a b)[j]? with
      | none => rw [hq] at hy; simp at hy
      | some z =>
        rw [hq] at hy; simp at hy; subst hy
        rw [gB_time]
        have := srt_get hM hj hq hi
        omega
    · rw [hgi] at hy; cases hy; omega
  refine ⟨i, x, hi, hxt, hgi, hlow, ?_, ?_⟩
  · unfold fndS
    rw [hlow, hgi]
    simp [cmpI, hxt]
  · refine List.ext_getElem? fun j => ?_
    rw [List.getElem?_set]
    by_cases e : i = j
    · subst e
      rw [if_pos rfl, if_pos (slt hgi), List.getElem?_map, hi, Option.map_some, gB_step sb h, if_pos hxt]
    · rw [if_neg e, List.getElem?_map, List.getElem?_map]
      cases hq : (mg a b)[j]? with
      | none => rfl
      | some z =>
        have hne : ¬ (z.time = s.time) := fun e2 => by
          rcases Nat.lt_or_gt_of_ne e with c | c
          · have := srt_get hM c hi hq; omega
          · have := srt_get hM c hq hi; omega
        rw [Option.map_some, Option.map_some, gB_step sb h, if_neg hne]
theorem gB_nil (x : Sample) : gB [] x = x := rfl
theorem otr_flat {α : Type} {f : α → SV} {Z : Nat → Prop} {rs : List SV} {l : List α} (h : Otr Z rs (l.map f)) (hf : ∀ x, flatV (f x) = true) : rs = l.map f := by
  refine List.ext_getElem? fun i => ?_
  cases hq : rs[i]? with
  | none =>
    have : ¬ i < rs.length := fun hlt => by rw [List.getElem?_eq_getElem hlt] at hq; cases hq
    rw [h.len] at this
    exact (List.getElem?_eq_none (by omega)).symm
  | some r =>
    have hlt := slt hq
    rw [h.len, List.length_map] at hlt
    obtain ⟨x, hx⟩ := sget (l := l) hlt
    have hs := mget (f := f) hx
    rw [hs, flat_eq (hf x) (h.gd i r _ hq hs)]
theorem flat_sample (x : Sample) : flatV (eSample x) = true := rfl
theorem mg_empty {a b : List Sample} (h : b ≠ []) : mg a b ≠ [] := fun e => mg_ne (a := a) (fun h0 => h (List.eq_nil_of_length_eq_zero h0)) (by rw [e]; rfl)
theorem f164_t (a b : List Sample) (hl : a.length + b.length ≤ 1048576) (sa : SrtS a) (sb : SrtS b) : PFnT Tryz.prog 164 [eSampleS a, eSampleS b] (eSampleS (grM a b)) := by
  refine fnp_ok (n := 41) Tryz.func164 rfl rfl rfl (Nat.le_of_ble_eq_true rfl) rfl fun w0 O => ?_
  have hml := mg_len a b
  refine ok_seq fun K1 h1 => ok_region rfl (q_as _ rfl (run_nil (h1 _ ?_))); clear h1 K1
  refine ok_seq fun K2 h2 => ?_
  refine ok_region rfl (q_mv _ rfl (q_mv _ rfl (q_callg [1] (f216_t a b (by omega) (by omega)) cl216 ⟨.inl rfl, .inl rfl, trivial⟩ (fun r hr hz ha => ?_))))
  obtain ⟨Z0, v0, rfl⟩ := gd_sl_inv hr
  refine q_as _ rfl (run_nil (h2 _ ?_)); clear h2 K2
  refine Ok.le (le_sub (t' := [(1, .av (fun q => Zn q (.tr Z0 (eSampleS (mg a b)) v0)) (eSampleS b)), (5, .sv (.tr Z0 (eSampleS (mg a b)) v0))]) (h' := []) ⟨rfl, rfl, trivial⟩ trivial) ?_
  by_cases hb : b = []
  · subst hb
    have e : grM a [] = mg a [] := by unfold grM; exact (List.map_congr_left fun x _ => gB_nil x).trans (List.map_id _)
    rw [e]
    refine Ok.le le_unav ?_
    refine ok_seq fun K4 h4 => ?_
    refine ok_seq fun K3 h3 => ok_region rfl (q_mv _ rfl (q_len eS123 rfl (q_mv _ rfl (run_nil (h3 _ ?_))))); clear h3 K3
    refine ok_block ?_
    refine ok_loop (fun (k : Nat) => ⟨[(5, .sv (.tr Z0 (eSampleS (mg a [])) v0)), (14, .sv (int 0)), (15, .sv (int 0))], []⟩) (fun k => True) (fun k => k) 0 trivial (le_sub ⟨rfl, rfl, rfl, trivial⟩ trivial) (fun k J => ?_)
    refine ok_seq fun K5 h5 => ok_region rfl (q_bin _ _ _ rfl rfl rfl (run_nil (h5 _ ?_))); clear h5 K5
    refine ok_seq fun K6 h6 => ?_
    refine ok_cond rfl (fun c7 => ?_) (fun c7 => ?_)
    · exact absurd c7 (by simp)
    · refine ok_exit (h4 _ ?_)
      refine ok_seq fun K8 h8 => ok_region rfl (q_mv _ rfl (q_as _ rfl (run_nil (h8 _ ?_)))); clear h8 K8
      exact ok_ret ⟨_, ⟨_, _, rfl, rfl, rfl⟩, .tr _ _ _ _, hz⟩
  · have hne : (mg a b).map eSample ≠ [] := fun h => mg_empty (a := a) hb (List.map_eq_nil_iff.1 h)
    refine ok_otr 5 100 rfl hne (fun q hq => .inl (hz q (.tr _ _ _ hq))) rfl rfl ⟨fun q hq => .tr _ _ _ hq, trivial⟩ trivial (fun T rs hO => ?_)
    have hrs := otr_flat hO flat_sample
    subst hrs
    refine Ok.le le_unav ?_
    refine ok_seq fun K4 h4 => ?_
    refine ok_seq fun K3 h3 => ok_region rfl (q_mv _ rfl (q_len eS123 rfl (q_mv _ rfl (run_nil (h3 _ ?_))))); clear h3 K3
    rw [List.length_map]
    refine ok_block ?_
    refine ok_loop (fun (k : Nat) => ⟨[(5, .own 100), (13, .sv (eSampleS b)), (14, .sv (int b.length)), (15, .sv (int k))], [(100, .row 2 T (((mg a b).map (gB (b.take k))).map eSample))]⟩) (fun k => True) (fun k => b.length - k) 0 trivial (le_sub ⟨rfl, rfl, rfl, rfl, trivial⟩ ⟨by rw [List.take_zero, show (mg a b).map (gB []) = mg a b from (List.map_congr_left fun x _ => gB_nil x).trans (List.map_id _)]; rfl, trivial⟩) (fun k J => ?_)
    refine ok_seq fun K5 h5 => ok_region rfl (q_bin _ _ _ rfl rfl rfl (run_nil (h5 _ ?_))); clear h5 K5
    refine ok_seq fun K6 h6 => ?_
    refine ok_cond rfl (fun c7 => ?_) (fun c7 => ?_)
    · refine ok_skip (h6 _ ?_)
      have hk : k < b.length := by simpa using c7
      obtain ⟨s, hs⟩ := sget hk
      obtain ⟨i, x, g1, g2, g3, g4, g5, g6⟩ := gr_at sa sb hs
      have gS : SrtS ((mg a b).map (gB (b.take k))) := map_srt (mg_srt sa sb)
      have gL : ((mg a b).map (gB (b.take k))).length ≤ 1048576 := by rw [List.length_map]; omega
      generalize (mg a b).map (gB (b.take k)) = M at *
      have hil := slt g3
      refine ok_seq fun K8 h8 => ?_
      refine ok_block ?_
      refine ok_seq fun K9 h9 => ok_region rfl (q_ia el123 rfl rfl (by omega) (mget (f := eSample) hs) (q_lds _ ag122 rfl sz122 (q_alloc _ ze122 rfl rfl rfl rfl (q_sts _ rfl rfl rfl sz122 (Nat.le_of_ble_eq_true rfl) rfl (run_nil (h9 _ ?_)))))); clear h9 K9
      refine ok_seq fun K10 h10 => ?_
      refine ok_region rfl (q_mo _ rfl (q_fap fd122_0 rfl (by decide) (q_ldb (.sv (int s.time)) ag3 rfl rfl rfl (q_call (f217_ok M gL gS s.time) cl217 rfl rfl (q_mv _ rfl (q_ext _ rfl rfl (q_ext _ rfl rfl (q_as _ rfl (q_as _ rfl (run_nil (h10 _ ?_)))))))))))
      clear h10 K10
      rw [g4, g5]
      refine ok_seq fun K11 h11 => ok_region rfl (q_mv _ rfl (run_nil (h11 _ ?_))); clear h11 K11
      refine ok_cond rfl (fun c12 => ?_) (fun c12 => ?_)
      · refine ok_last fun K13 h13 => ok_region_i (by kernel_rfl) (by kernel_rfl) rfl (
          q_mo _ rfl (q_mv _ rfl (q_mo _ rfl (q_mv _ rfl (q_iao el123 rfl rfl rfl (by omega) (by rw [List.length_map]; exact hil) (q_fae fd122_1 rfl (by decide) (q_ldef (int x.value) ag3 rfl rfl (mget (f := eSample) g3) rfl (q_fap fd122_1 rfl (by decide) (q_ldb (.sv (int s.value)) ag3 rfl rfl rfl (
          q_max rfl rfl (q_iao el123 rfl rfl rfl (by omega) (by rw [List.length_map]; exact hil) (q_fae fd122_1 rfl (by decide) (q_stef sz3 rfl rfl (mget (f := eSample) g3) (by show 1 < 2; omega) rfl rfl rfl (run_nil (h13 _ (h8 _ ?_))))))))))))))))
        refine ok_last fun K14 h14 => ok_region rfl (q_add rfl rfl (by omega) (q_mv _ rfl (run_nil (h14 _ ⟨k + 1, by omega, trivial, le_sub ⟨rfl, rfl, rfl, rfl, trivial⟩ ⟨?_, trivial⟩⟩))))
        rw [← g6, List.map_set]
        rfl
      · exact absurd c12 (by simp)
    · rw [List.take_of_length_le (by have : ¬ ((k : Int) < b.length) := by simpa using c7
                                     omega)]
      refine ok_exit (h4 _ ?_)
      refine ok_seq fun K15 h15 => ok_region rfl (q_mo _ rfl (q_ao _ rfl (run_nil (h15 _ ?_)))); clear h15 K15
      obtain ⟨f1, f2, f3⟩ := gd_flatL (rs := (grM a b).map eSample) (fun r hr => by obtain ⟨x, _, rfl⟩ := List.mem_map.1 hr; exact flat_sample x)
      refine ok_treed (k := 100) (n := 2) (T := T) (rs := (grM a b).map eSample) (ss := (grM a b).map eSample) rfl rfl f1 f2 (fun r hr b hb => (f3 r hr b hb).elim) (fun Z v hZ => ?_)
      exact ok_ret ⟨_, ⟨_, _, rfl, rfl, rfl⟩, .tr Z 2 _ v, fun b hb => (hZ b (zn_tr hb)).elim id fun h => h.elim⟩
end Go.Ring
