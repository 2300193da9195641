/- Functions that hand back copies, functions that write into trees; calls whose arguments are trees. No condition. -/
import Derived.Test.YtlokejcoikddgaaAbsTree
import Derived.Test.YtlokejcoikddgaaAbsOpen
namespace Go.Abs
open Go Go.RowKit Go.Eager
set_option linter.unusedVariables false
theorem Gd.rep {w : World} {O : Nat → Prop} {r s : SV} (g : Gd r s) {v : Value} (h : Rep w O r v) : Rep w O s v := (g.tree h).rep fun b hb => (Rep.zn hb h).2
/-- A function whose result is told by what it is; its results may lie in boxes. -/
theorem fnp_ok_at {P : Program} {f : FuncId} {fn : Func} {c : Code} {rs : List ResultVar} {args : List SV} {R : SV → Prop} (hf : P.funcs[f]? = some fn) (hb : fn.body = some c) (hrs : fn.results.toList = rs) (hn : args.length ≤ fn.ntmps)
    (w : World) (O : Nat → Prop) (h : Ok { P := P, w0 := w, O := O, M := fun _ => False, inn := fun _ => none, n := fn.ntmps } c ⟨args.zipIdx.map fun p => (p.2, .sv p.1), []⟩ (endR P rs fun l => R (tupSV l))) (vs : Array Value) (hO : ∀ b, O b → b < w.heap.size) (hvs : vs.size = args.length)
    (hrep : ∀ (i : Nat) (s : SV) (u : Value), args[i]? = some s → vs[i]? = some u → Rep w O s u) : Calls P f vs w fun e w' => ∃ v r, e = .returned v ∧ Ext w w' ∧ R r ∧ Rep w' O r v := by
  refine calls_of_wp hf hb ?_
  let Γ : Ctx := { P := P, w0 := w, O := O, M := fun _ => False, inn := fun _ => none, n := fn.ntmps }
  have hlk : ∀ (l : List SV) (k t : Nat) (lv : LV), ((l.zipIdx k).map fun p => (p.2, LV.sv p.1)).lookup t = some lv → ∃ s, l[t - k]? = some s ∧ lv = .sv s ∧ k ≤ t := by
    intro l
    induction l with
    | nil => intro k t lv h; simp at h
    | cons s l ih =>
      intro k t lv h
      simp only [List.zipIdx_cons, List.map_cons, List.lookup_cons] at h
      by_cases ht : t = k
      · subst ht; simp at h; exact ⟨s, by simp, h.symm, Nat.le_refl _⟩
      · have : (t == k) = false := by simpa using ht
        simp only [this] at h
        obtain ⟨s', h1, h2, h3⟩ := ih (k + 1) t lv h
        refine ⟨s', ?_, h2, by omega⟩
        rw [show t - k = (t - (k + 1)) + 1 by omega]; simpa using h1
  have I : Inv Γ ⟨args.zipIdx.map fun p => (p.2, .sv p.1), []⟩ { tmps := vs ++ Array.replicate (fn.ntmps - vs.size) undef, defers := [] } w := by
    refine ⟨fun _ => undef, ⟨rfl, by simp [Γ]; omega, ⟨rfl, rfl, rfl, Nat.le_refl _, fun _ _ _ => rfl⟩, ?_, ?_, ?_, ?_, fun b hb => ⟨hO b hb, fun h => h⟩, ?_⟩⟩
    · intro t lv ht
      obtain ⟨s, h1, rfl, _⟩ := hlk args 0 t lv ht
      have hlt : t < vs.size := by rw [hvs]; simpa using (List.getElem?_eq_some_iff.1 h1).1
      have hu : vs[t]? = some vs[t] := Array.getElem?_eq_getElem hlt
      have h2 := hrep t s _ (by simpa using h1) hu
      have h3 : (vs ++ Array.replicate (fn.ntmps - vs.size) undef).getD t undef = vs[t] := by
        rw [Array.getD_eq_getD_getElem?, Array.getElem?_append_left hlt, hu]; rfl
      show Rep w _ s _
      rw [h3]
      exact Rep.kp h2 fun b _ hno => ⟨rfl, fun h => by
        rcases h with h | ⟨k, e, hk, _⟩
        · exact hno h
        · simp at hk⟩
    · intro k e hk; simp at hk
    · intro k e b hk; simp at hk
    · intro k k' e e' b hk; simp at hk
    · intro k v hv; simp [Γ] at hv
  refine wp_mono (h _ w I) ?_
  rintro e a' w' ⟨σ', hq, ρ, J⟩
  have fin : (∃ l, ResL P σ' rs l ∧ R (tupSV l)) → a'.defers = [] ∧ ∃ v, (results fn a'.tmps).run P w' = .ok v w' ∧ ∃ v' r, Ending.returned v = .returned v' ∧ Ext w w' ∧ R r ∧ Rep w' O r v' := by
    rintro ⟨l, hl, hR⟩
    obtain ⟨vs', hv1, hv2, hv3⟩ := run_resl J hl fn hrs
    exact ⟨J.dfr, _, hv2, _, _, rfl, ⟨J.frm.os, J.frm.tape, J.frm.output, J.frm.size, fun b hb => J.frm.block b hb (fun h => h)⟩, hR, tup_rep hv1 hv3⟩
  cases e with
  | normal => exact fin hq
  | ret => exact fin hq
  | _ => exact hq.elim
theorem fnp_ok {P : Program} {f : FuncId} {fn : Func} {c : Code} {rs : List ResultVar} {args : List SV} {R : SV → Prop} {n : Nat} {t0 : List (Nat × LV)} (hf : P.funcs[f]? = some fn) (hb : fn.body = some c) (hrs : fn.results.toList = rs) (hnt : fn.ntmps = n) (hn : args.length ≤ n)
    (ht : (args.zipIdx.map fun p => (p.2, LV.sv p.1)) = t0) (h : ∀ w0 O, Ok (ctx P w0 O n) c ⟨t0, []⟩ (endR P rs fun l => R (tupSV l) ∧ ∀ b, Zn b (tupSV l) → w0.heap.size ≤ b)) : PFnR P f args R := by
  subst hnt ht
  intro w O vs hO hsz hr
  refine (fnp_ok_at (R := fun r => R r ∧ ∀ b, Zn b r → w.heap.size ≤ b) hf hb hrs hn w O (h w O) vs hO hsz hr).mono ?_
  rintro e w' ⟨v, r, h1, h2, ⟨h3, h4⟩, h5⟩
  exact ⟨v, r, h1, h2, h3, h4, h5⟩
/-- The row of ours k as a tree. -/
def tdT (k : Nat) (r : SV) (t : List (Nat × LV)) : List (Nat × LV) := t.map fun p => (p.1, match p.2 with | .own k' => if k' = k then .sv r else .own k' | lv => lv)
theorem tdT_lookup {k t : Nat} {r : SV} {lv : LV} : ∀ {ts : List (Nat × LV)}, (tdT k r ts).lookup t = some lv → ts.lookup t = some lv ∨ (ts.lookup t = some (.own k) ∧ lv = .sv r)
  | [], h => by simp [tdT] at h
  | (t', lv') :: ts, h => by
    simp only [tdT, List.map_cons, List.lookup_cons] at h ⊢
    by_cases ht : t = t'
    · subst ht
      simp only [BEq.rfl, Option.some.injEq] at h ⊢
      subst h
      split
      · rename_i k'
        by_cases hk : k' = k
        · subst hk; simp
        · simp [hk]
      · exact .inl rfl
    · have : (t == t') = false := by simpa using ht
      simp only [this] at h ⊢
      exact tdT_lookup h
theorem ok_treed {Γ : Ctx} {code : Code} {t : List (Nat × LV)} {h : List (Nat × Ent)} {Q : Exit → St → Prop} {k n T : Nat} {rs ss : List SV} (hk : h.lookup k = some (.row n T rs)) (hl : rs.length = ss.length) (hg : ∀ (i : Nat) (r s : SV), rs[i]? = some r → ss[i]? = some s → Gd r s)
    (hap : ∀ (i j b : Nat) (ri rj : SV), rs[i]? = some ri → rs[j]? = some rj → Zn b ri → Zn b rj → i = j) (hzn : ∀ r ∈ rs, ∀ b, Zn b r → Γ.w0.heap.size ≤ b ∨ Γ.M b)
    (hok : ∀ (Z : Nat → Prop) (v : Value), (∀ b, Z b → Γ.w0.heap.size ≤ b ∨ Γ.M b) → Ok Γ code ⟨tdT k (.tr Z (.sl n ss) v) t, dropH k h⟩ Q) : Ok Γ code ⟨t, h⟩ Q := by
  rintro a w ⟨ρ, I⟩
  have hT := row_tree I hk hl hg hap
  have hZb : ∀ b, (blk (ρ k) = some b ∨ ∃ r ∈ rs, Zn b r) → (Γ.w0.heap.size ≤ b ∨ Γ.M b) ∧ b < w.heap.size ∧ ¬ Own Γ (dropH k h) ρ b := by
    rintro b (hb | ⟨r, hr, hb⟩)
    · refine ⟨(I.new k _ b hk hb).1, (I.new k _ b hk hb).2, ?_⟩
      rintro (hO | ⟨k1, e1, hk1, hb1⟩)
      · have := I.out b hO
        rcases (I.new k _ b hk hb).1 with h1 | h1
        · omega
        · exact this.2 h1
      · obtain ⟨h1, h2⟩ := dropH_lookup hk1
        exact h2 (I.sep k1 k e1 _ b h1 hk hb1 hb)
    · obtain ⟨_, xs, vals, _, hel⟩ := I.ent k _ hk
      obtain ⟨i, hi⟩ := List.getElem?_of_mem hr
      have h1 := Rep.zn hb (hel i r hi).1
      refine ⟨hzn r hr b hb, h1.1, ?_⟩
      rintro (hO | ⟨k1, e1, hk1, hb1⟩)
      · exact h1.2 (.inl hO)
      · exact h1.2 (.inr ⟨k1, e1, (dropH_lookup hk1).1, hb1⟩)
  refine hok (fun b => blk (ρ k) = some b ∨ ∃ r ∈ rs, Zn b r) (ρ k) (fun b hb => (hZb b hb).1) a w ⟨ρ, ?_⟩
  have J : Iv Γ ⟨t, dropH k h⟩ ρ a w := I.sub (fun _ _ h => h) fun k e h => (dropH_lookup h).1
  refine ⟨J.dfr, J.size, J.frm, ?_, J.ent, J.new, J.sep, J.out, J.inn⟩
  intro t' lv h'
  rcases tdT_lookup h' with h'' | ⟨h'', rfl⟩
  · exact J.tmp t' lv h''
  · have h1 : a.tmps.getD t' undef = ρ k := I.tmp t' _ h''
    show Rep w _ _ _
    rw [h1]
    exact .tr _ _ _ hT fun b hb => (hZb b hb).2
/-- A function that writes into a slice of its first argument. -/
def endM (t n T : Nat) (Z : Nat → Prop) (R : Int → SV → Prop) : Exit → St → Prop
  | .normal, σ | .ret, σ => ∃ (k' : Int) (rs l : List SV), σ.ev (.tmp t) = .sv (.raw (.int .i64 k')) ∧ σ.h.lookup 0 = some (.row n T rs) ∧ rs.length = l.length ∧ (∀ (i : Nat) (r s : SV), rs[i]? = some r → l[i]? = some s → Gd r s) ∧
      (∀ (i j b : Nat) (ri rj : SV), rs[i]? = some ri → rs[j]? = some rj → Zn b ri → Zn b rj → i = j) ∧ (∀ r ∈ rs, ∀ b, Zn b r → Z b) ∧ R k' (.sl n l)
  | _, _ => False
theorem tree_open {w : World} {O : Nat → Prop} {Z : Nat → Prop} {s : SV} {v : Value} (h : Tree w Z s v) (hZ : ∀ b, Z b → b < w.heap.size ∧ ¬ O b) : ∃ r, Gd r s ∧ (∀ b, Zn b r → Z b) ∧ Rep w O r v := by
  induction h with
  | raw Z v => exact ⟨_, .raw v, fun b hb => (zn_raw hb).elim, .raw v⟩
  | nil Z sz a c => exact ⟨.tr Z (.sl sz []) _, .tr Z sz [] _, fun b hb => zn_tr hb, .tr Z _ _ (.nil Z sz a c) hZ⟩
  | sl Z sz T l b c cur vals z hb hl hc hz hcm hcs hg hel hsz hcl hzn hap ih => exact ⟨.tr Z (.sl sz l) _, .tr Z sz l _, fun b hb => zn_tr hb, .tr Z _ _ (.sl Z sz T l b c cur vals z hb hl hc hz hcm hcs hg hel hsz hcl hzn hap) hZ⟩
  | agg Z l vs z hn h1 h hzn hap ih =>
    have hx : ∀ i, i < l.length → ∃ r, (∀ s u, l[i]? = some s → vs[i]? = some u → Gd r s ∧ (∀ b, Zn b r → z i b) ∧ Rep w O r u) := by
      intro i hi
      obtain ⟨r, h1, h2, h3⟩ := ih i l[i] vs[i] (List.getElem?_eq_getElem hi) (Array.getElem?_eq_getElem (by omega)) (fun b hb => hZ b (hzn i b hb))
      refine ⟨r, fun s u hs hu => ?_⟩
      rw [List.getElem?_eq_getElem hi] at hs
      rw [Array.getElem?_eq_getElem (by omega)] at hu
      cases hs; cases hu
      exact ⟨h1, h2, h3⟩
    obtain ⟨f, hf⟩ := @choose_lt' SV ⟨.raw undef⟩ l.length _ hx
    have hget : ∀ i r, ((List.range l.length).map f)[i]? = some r → i < l.length ∧ f i = r := fun i r hi => get_of_family f hi
    refine ⟨.agg ((List.range l.length).map f), .agg _ _ (by simp) (fun i r s hr hs => ?_) (fun i j b ri rj hri hrj hbi hbj => ?_), fun b hb => ?_, .agg _ _ (by simp; omega) h1 (fun i r u hr hu => ?_)⟩
    · obtain ⟨hi, rfl⟩ := hget i r hr
      exact (hf i hi s _ hs (Array.getElem?_eq_getElem (by omega))).1
    · obtain ⟨hi, rfl⟩ := hget i ri hri
      obtain ⟨hj, rfl⟩ := hget j rj hrj
      exact hap i j b ((hf i hi _ _ (List.getElem?_eq_getElem hi) (Array.getElem?_eq_getElem (by omega))).2.1 b hbi) ((hf j hj _ _ (List.getElem?_eq_getElem hj) (Array.getElem?_eq_getElem (by omega))).2.1 b hbj)
    · obtain ⟨r, hr, hb'⟩ := zn_agg hb
      obtain ⟨i, hi'⟩ := List.getElem?_of_mem hr
      obtain ⟨hi, rfl⟩ := hget i r hi'
      exact hzn i b ((hf i hi _ _ (List.getElem?_eq_getElem hi) (Array.getElem?_eq_getElem (by omega))).2.1 b hb')
    · obtain ⟨hi, rfl⟩ := hget i r hr
      exact (hf i hi _ u (List.getElem?_eq_getElem hi) hu).2.2
theorem fnm_ok {P : Program} {f : FuncId} {fn : Func} {c : Code} {t n m : Nat} {l : List SV} {k : Int} {R : Int → SV → Prop} (hf : P.funcs[f]? = some fn) (hb : fn.body = some c) (hrs : fn.results = #[.tmp t]) (hnt : fn.ntmps = m) (hn : 2 ≤ m)
    (hnil : l = [] → ∀ (w : World) (v : Value), Rep w (fun _ => False) (.sl n []) v → Calls P f #[v, .int .i64 k] w fun e w' => ∃ k' s', e = .returned (.int .i64 k') ∧ R k' s' ∧ s' = .sl n [] ∧ Ext w w')
    (h : ∀ (w0 : World) (Z : Nat → Prop) (v : Value) (T : Nat) (rs : List SV), rs.length = l.length → 0 < l.length → (∀ (i : Nat) (r s : SV), rs[i]? = some r → l[i]? = some s → Gd r s) → (∀ (i j b : Nat) (ri rj : SV), rs[i]? = some ri → rs[j]? = some rj → Zn b ri → Zn b rj → i = j) → (∀ r ∈ rs, ∀ b, Zn b r → Z b) →
      Ok { P := P, w0 := w0, O := fun _ => False, M := Z, inn := fun i => if i = 0 then some v else none, n := m } c ⟨[(0, .own 0), (1, .sv (.raw (.int .i64 k)))], [(0, .row n T rs)]⟩ (endM t n T Z R)) : MarkC P f (.sl n l) k R := by
  intro w Z v hT hZ
  subst hnt
  generalize hs : SV.sl n l = s at hT
  cases hT with
  | raw => cases hs
  | agg => cases hs
  | nil _ sz a c' =>
    injection hs with h1 h2
    subst h1
    refine (hnil h2 w _ (.nil _ a c')).mono ?_
    rintro e w' ⟨k', s', he, hR, rfl, hx⟩
    exact ⟨k', _, he, hR, ⟨hx.os, hx.tape, hx.output, hx.size, fun b hb _ => hx.block b hb⟩, .nil _ _ _ _⟩
  | sl _ sz T l' b c' cur vals z hb' hl hc hz hcm hcs hg hel hsz hcl hzn hap =>
    injection hs with h1 h2
    subst h1 h2
    have hx : ∀ i, i < l.length → ∃ r, ∀ s, l[i]? = some s → Gd r s ∧ (∀ d, Zn d r → z i d) ∧ Rep w (fun d => d = b) r (vals i) := by
      intro i hi
      obtain ⟨r, h1, h2, h3⟩ := tree_open (O := fun d => d = b) (hel i l[i] (List.getElem?_eq_getElem hi)) (fun d hd => ⟨hZ d (hzn i d hd).1, (hzn i d hd).2⟩)
      refine ⟨r, fun s hs => ?_⟩
      rw [List.getElem?_eq_getElem hi] at hs
      cases hs
      exact ⟨h1, h2, h3⟩
    obtain ⟨g, hg'⟩ := @choose_lt' SV ⟨.raw undef⟩ l.length _ hx
    have hget : ∀ i r, ((List.range l.length).map g)[i]? = some r → i < l.length ∧ g i = r := fun i r hi => get_of_family g hi
    have hrl : ((List.range l.length).map g).length = l.length := by simp
    refine calls_of_wp hf hb ?_
    let Γ : Ctx := { P := P, w0 := w, O := fun _ => False, M := Z, inn := fun i => if i = 0 then some (.slice (some ⟨b, 0, none⟩) l.length c') else none, n := fn.ntmps }
    have hgap : ∀ (i j b : Nat) (ri rj : SV), ((List.range l.length).map g)[i]? = some ri → ((List.range l.length).map g)[j]? = some rj → Zn b ri → Zn b rj → i = j := by
      intro i j d ri rj hri hrj hdi hdj
      obtain ⟨hi, rfl⟩ := hget i ri hri
      obtain ⟨hj, rfl⟩ := hget j rj hrj
      exact hap i j d ((hg' i hi _ (List.getElem?_eq_getElem hi)).2.1 d hdi) ((hg' j hj _ (List.getElem?_eq_getElem hj)).2.1 d hdj)
    have hgz : ∀ r ∈ (List.range l.length).map g, ∀ d, Zn d r → Z d := by
      intro r hr d hd
      obtain ⟨i, hi'⟩ := List.getElem?_of_mem hr
      obtain ⟨hi, rfl⟩ := hget i r hi'
      exact (hzn i d ((hg' i hi _ (List.getElem?_eq_getElem hi)).2.1 d hd)).1
    have hggd : ∀ (i : Nat) (r s : SV), ((List.range l.length).map g)[i]? = some r → l[i]? = some s → Gd r s := by
      intro i r s hr hs
      obtain ⟨hi, rfl⟩ := hget i r hr
      exact (hg' i hi s hs).1
    have hmul : l.length * n ≤ cur.size := by rw [hcs]; exact Nat.mul_le_mul_right n hc
    have I : Inv Γ ⟨[(0, .own 0), (1, .sv (.raw (.int .i64 k)))], [(0, .row n T ((List.range l.length).map g))]⟩ { tmps := #[.slice (some ⟨b, 0, none⟩) l.length c', .int .i64 k] ++ Array.replicate (fn.ntmps - 2) undef, defers := [] } w := by
      have hlook : ∀ k' e, [(0, Ent.row n T ((List.range l.length).map g))].lookup k' = some e → k' = 0 ∧ e = .row n T ((List.range l.length).map g) := by
        intro k' e hk
        rw [List.lookup_cons] at hk
        cases hq : (k' == 0) with
        | true => simp only [hq, Option.some.injEq] at hk; exact ⟨by simpa using hq, hk.symm⟩
        | false => simp [hq] at hk
      have hown : ∀ d, Own Γ [(0, Ent.row n T ((List.range l.length).map g))] (fun _ => .slice (some ⟨b, 0, none⟩) l.length c') d → d = b := by
        rintro d (h | ⟨k', e, _, h⟩)
        · exact h.elim
        · simp [blk] at h; exact h.symm
      refine ⟨fun _ => .slice (some ⟨b, 0, none⟩) l.length c', ⟨rfl, by simp [Γ]; omega, ⟨rfl, rfl, rfl, Nat.le_refl _, fun _ _ _ => rfl⟩, ?_, ?_, ?_, ?_, fun b hb => hb.elim, ?_⟩⟩
      · intro t' lv ht
        rw [List.lookup_cons] at ht
        cases h0 : (t' == 0) with
        | true =>
          have : t' = 0 := by simpa using h0
          subst this
          simp only [h0, Option.some.injEq] at ht
          subst ht
          show Array.getD _ 0 undef = _
          rw [Array.getD_eq_getD_getElem?, Array.getElem?_append_left (by simp)]; rfl
        | false =>
          simp only [h0, List.lookup_cons] at ht
          cases h1 : (t' == 1) with
          | true =>
            have : t' = 1 := by simpa using h1
            subst this
            simp only [h1, Option.some.injEq] at ht
            subst ht
            show Rep w _ _ _
            have e : (#[Value.slice (some ⟨b, 0, none⟩) l.length c', .int .i64 k] ++ Array.replicate (fn.ntmps - 2) undef).getD 1 undef = .int .i64 k := by rw [Array.getD_eq_getD_getElem?, Array.getElem?_append_left (by simp)]; rfl
            rw [e]; exact .raw _
          | false => simp [h1] at ht
      · intro k' e hk
        obtain ⟨rfl, rfl⟩ := hlook k' e hk
        refine ⟨hz, cur.toList.take (l.length * n), vals, ⟨by rw [hrl, List.length_take, Array.length_toList]; exact Nat.min_eq_left hmul, .inr ⟨b, c', cur, by rw [hrl], Nat.zero_le _, hg, by rw [hrl]; exact hc, hcm, hcs, by rw [hrl]⟩⟩, fun i r hi => ?_⟩
        obtain ⟨hi', rfl⟩ := hget i r hi
        refine ⟨((hg' i hi' _ (List.getElem?_eq_getElem hi')).2.2).kp (fun d hd hno => ⟨rfl, fun h => hno (hown d h)⟩), hsz i hi', fun j u hu => ?_⟩
        have h3 := hcl i hi' j u hu
        have hjn : j < n := by
          have h4 := hsz i hi'
          have := (Array.getElem?_eq_some_iff.1 hu).1
          omega
        have hlt2 : i * n + j < l.length * n := by
          have : (i + 1) * n ≤ l.length * n := Nat.mul_le_mul_right n hi'
          rw [Nat.add_mul, Nat.one_mul] at this
          omega
        rw [List.getElem?_take, if_pos hlt2, Array.getElem?_toList]; exact h3
      · intro k' e d hk hd
        simp [blk] at hd
        subst hd
        exact ⟨.inr hb', hZ b hb'⟩
      · intro k1 k2 e1 e2 d h1 h2 _ _
        rw [(hlook k1 e1 h1).1, (hlook k2 e2 h2).1]
      · intro k' v hv
        simp only [Γ] at hv
        split at hv
        · simpa using hv
        · cases hv
    refine wp_mono (h w Z (.slice (some ⟨b, 0, none⟩) l.length c') T _ hrl hl hggd hgap hgz _ w I) ?_
    rintro e a' w' ⟨σ', hq, ρ, J⟩
    have hres : (results fn a'.tmps).run P w' = .ok (a'.tmps.getD t undef) w' := by
      unfold results
      rw [hrs]
      simp
    have fin : (∃ (k' : Int) (rs l : List SV), σ'.ev (.tmp t) = .sv (.raw (.int .i64 k')) ∧ σ'.h.lookup 0 = some (.row n T rs) ∧ rs.length = l.length ∧ (∀ (i : Nat) (r s : SV), rs[i]? = some r → l[i]? = some s → Gd r s) ∧
        (∀ (i j b : Nat) (ri rj : SV), rs[i]? = some ri → rs[j]? = some rj → Zn b ri → Zn b rj → i = j) ∧ (∀ r ∈ rs, ∀ b, Zn b r → Z b) ∧ R k' (.sl n l)) →
        a'.defers = [] ∧ ∃ v, (results fn a'.tmps).run P w' = .ok v w' ∧ ∃ k' s', Ending.returned v = .returned (.int .i64 k') ∧ R k' s' ∧ Chg Z w w' ∧ Tree w' Z s' (.slice (some ⟨b, 0, none⟩) l.length c') := by
      rintro ⟨k', rs, l2, h1, h2, h3, h4, h5, h6, h7⟩
      have hv : a'.tmps.getD t undef = .int .i64 k' := ev_raw J h1
      have hρ : ρ 0 = .slice (some ⟨b, 0, none⟩) l.length c' := J.inn 0 _ rfl
      have hT := row_tree J h2 h3 h4 h5
      rw [hρ] at hT
      refine ⟨J.dfr, _, hres, k', .sl n l2, by rw [hv], h7, ⟨J.frm.os, J.frm.tape, J.frm.output, J.frm.size, fun d hd hno => J.frm.block d hd hno⟩, hT.mono fun d hd => ?_⟩
      rcases hd with hd | ⟨r, hr, hd⟩
      · simp [blk] at hd; subst hd; exact hb'
      · exact h6 r hr d hd
    cases e with
    | normal => exact fin hq
    | ret => exact fin hq
    | _ => exact hq.elim
end Go.Abs
