/- Marks written into a ring. No condition. -/
import Derived.Test.YtlokejcoikddgaaT2
set_option maxRecDepth 100000
set_option linter.unusedVariables false
set_option linter.unusedSimpArgs false
namespace Go.Abs
open Go Go.RowKit Go.Eager
set_option linter.unusedVariables false
/-- The end of a function that writes into a tree that its first argument, a struct, holds. -/
def endW (t bx : Nat) (Z : Nat → Prop) (v : Value) (R : Int → SV → Prop) : Exit → St → Prop
  | .normal, σ | .ret, σ => ∃ (k' : Int) (s' : SV) (c : LV), σ.ev (.tmp t) = .sv (.raw (.int .i64 k')) ∧ R k' s' ∧ σ.h.lookup bx = some (.box [c, .sv (.tr Z s' v)])
  | _, _ => False
theorem fnw_ok {P : Program} {f : FuncId} {fn : Func} {code : Code} {t m bx : Nat} {s : SV} {c k : Int} {R : Int → SV → Prop} (hf : P.funcs[f]? = some fn) (hb : fn.body = some code) (hrs : fn.results = #[.tmp t]) (hnt : fn.ntmps = m) (hn : 2 ≤ m) (h1 : ∃ n l, s = .sl n l)
    (h : ∀ (w0 : World) (Z : Nat → Prop) (v : Value), Ok { P := P, w0 := w0, O := fun _ => False, M := Z, inn := fun _ => none, n := m } code ⟨[(0, .sv (.agg [.raw (.int .i64 c), .tr Z s v])), (1, .sv (.raw (.int .i64 k)))], []⟩ (endW t bx Z v R))
    (w : World) (Z : Nat → Prop) (v : Value) (hT : Tree w Z s v) (hZ : ∀ b, Z b → b < w.heap.size) :
    Calls P f #[.agg #[.int .i64 c, v], .int .i64 k] w fun e w' => ∃ k' s', e = .returned (.int .i64 k') ∧ R k' s' ∧ Chg Z w w' ∧ Tree w' Z s' v := by
  subst hnt
  refine calls_of_wp hf hb ?_
  let Γ : Ctx := { P := P, w0 := w, O := fun _ => False, M := Z, inn := fun _ => none, n := fn.ntmps }
  have hv1 : v.oneCell' = true := by
    obtain ⟨n, l, rfl⟩ := h1
    cases hT <;> rfl
  have I : Inv Γ ⟨[(0, .sv (.agg [.raw (.int .i64 c), .tr Z s v])), (1, .sv (.raw (.int .i64 k)))], []⟩ { tmps := #[.agg #[.int .i64 c, v], .int .i64 k] ++ Array.replicate (fn.ntmps - 2) undef, defers := [] } w := by
    refine ⟨fun _ => undef, ⟨rfl, by simp [Γ]; omega, ⟨rfl, rfl, rfl, Nat.le_refl _, fun _ _ _ => rfl⟩, ?_, ?_, ?_, ?_, fun b hb => hb.elim, ?_⟩⟩
    · intro t' lv ht
      have hno : ∀ d, ¬ Own Γ [] (fun _ => undef) d := by
        rintro d (h | ⟨k', e, hk, _⟩)
        · exact h
        · simp at hk
      rw [List.lookup_cons] at ht
      cases h0 : (t' == 0) with
      | true =>
        have : t' = 0 := by simpa using h0
        subst this
        simp only [h0, Option.some.injEq] at ht
        subst ht
        show Rep w _ _ (Array.getD _ 0 undef)
        rw [Array.getD_eq_getD_getElem?, Array.getElem?_append_left (by simp)]
        show Rep w _ _ (Value.agg #[.int .i64 c, v])
        refine .agg _ _ rfl (fun i u hu => ?_) (fun i x u hx hu => ?_)
        · match i, hu with
          | 0, hu => simp at hu; subst hu; rfl
          | 1, hu => simp at hu; subst hu; exact hv1
          | i + 2, hu => simp at hu
        · match i, hx, hu with
          | 0, hx, hu => simp at hx hu; subst hx hu; exact .raw _
          | 1, hx, hu => simp at hx hu; subst hx hu; exact .tr _ _ _ hT fun b hb => ⟨hZ b hb, hno b⟩
          | i + 2, hx, hu => simp at hu
      | false =>
        simp only [h0, List.lookup_cons] at ht
        cases h1 : (t' == 1) with
        | true =>
          have : t' = 1 := by simpa using h1
          subst this
          simp only [h1, Option.some.injEq] at ht
          subst ht
          show Rep w _ _ (Array.getD _ 1 undef)
          rw [Array.getD_eq_getD_getElem?, Array.getElem?_append_left (by simp)]
          exact .raw _
        | false => simp [h1] at ht
    · intro k' e hk; simp at hk
    · intro k' e b hk; simp at hk
    · intro k1 k2 e1 e2 b hk; simp at hk
    · intro k' v hv; simp [Γ] at hv
  refine wp_mono (h w Z v _ w I) ?_
  rintro e a' w' ⟨σ', hq, ρ, J⟩
  have hres : (results fn a'.tmps).run P w' = .ok (a'.tmps.getD t undef) w' := by
    unfold results
    rw [hrs]
    simp
  have fin : (∃ (k' : Int) (s' : SV) (c : LV), σ'.ev (.tmp t) = .sv (.raw (.int .i64 k')) ∧ R k' s' ∧ σ'.h.lookup bx = some (.box [c, .sv (.tr Z s' v)])) →
      a'.defers = [] ∧ ∃ u, (results fn a'.tmps).run P w' = .ok u w' ∧ ∃ k' s', Ending.returned u = .returned (.int .i64 k') ∧ R k' s' ∧ Chg Z w w' ∧ Tree w' Z s' v := by
    rintro ⟨k', s', c', e1, e2, e3⟩
    have hv : a'.tmps.getD t undef = .int .i64 k' := ev_raw J e1
    obtain ⟨b, T, cur, _, _, hs, hc⟩ := J.ent bx _ e3
    have hlt : 1 < cur.size := by rw [hs]; simp
    have h2 := (hc 1 _ cur[1] rfl (Array.getElem?_eq_getElem hlt)).1
    have h3 : Rep w' (Own Γ σ'.h ρ) (.tr Z s' v) cur[1] := h2
    cases h3 with
    | tr _ _ _ hT' _ => exact ⟨J.dfr, _, hres, k', s', by rw [hv], e2, ⟨J.frm.os, J.frm.tape, J.frm.output, J.frm.size, fun d hd hno => J.frm.block d hd hno⟩, hT'⟩
  cases e with
  | normal => exact fin hq
  | ret => exact fin hq
  | _ => exact hq.elim
end Go.Abs
namespace Go.Ring
open Go Go.RowKit Go.Eager Go.Abs Go.Proofs
@[reducible] def nd (id : ByteArray) (st : Int) (tk : List Int) (Z : Nat → Prop) (v : Value) : SV := .agg [str id, int st, .tr Z (ints tk) v]
theorem zn_nd {b : Nat} {id : ByteArray} {st : Int} {Z : Nat → Prop} {s : SV} {v : Value} (h : Zn b (.agg [str id, int st, .tr Z s v])) : Z b := by
  obtain ⟨r, hr, hb⟩ := zn_agg h
  simp only [List.mem_cons, List.not_mem_nil, or_false] at hr
  rcases hr with rfl | rfl | rfl
  · exact (zn_raw hb).elim
  · exact (zn_raw hb).elim
  · exact zn_tr hb
theorem nd_zn {b : Nat} {id : ByteArray} {st : Int} {Z : Nat → Prop} {s : SV} {v : Value} (h : Z b) : Zn b (.agg [str id, int st, .tr Z s v]) := .agg _ (.tr Z s v) (by simp) (.tr Z s v h)
structure Shp (Z : Nat → Prop) (rs : List SV) (n : Nat) : Prop where
  len : rs.length = n
  ap : ∀ (i j b : Nat) (ri rj : SV), rs[i]? = some ri → rs[j]? = some rj → Zn b ri → Zn b rj → i = j
  zn : ∀ r ∈ rs, ∀ b, Zn b r → Z b
  nd : ∀ (j : Nat) (r : SV), rs[j]? = some r → ∃ id st tk Zj vj, r = nd id st tk Zj vj ∧ tk.length ≤ 1048576
theorem set_get {rs : List SV} {i j : Nat} {x r : SV} (h : (rs.set i x)[j]? = some r) : (j = i ∧ r = x) ∨ (j ≠ i ∧ rs[j]? = some r) := by
  rw [List.getElem?_set] at h
  by_cases hij : i = j
  · subst hij
    rw [if_pos rfl] at h
    split at h
    · exact .inl ⟨rfl, by cases h; rfl⟩
    · cases h
  · rw [if_neg hij] at h; exact .inr ⟨fun e => hij e.symm, h⟩
theorem Shp.set {Z : Nat → Prop} {rs : List SV} {n i : Nat} {id id' : ByteArray} {st st' : Int} {tk tk' : List Int} {Zj : Nat → Prop} {vj : Value} (h : Shp Z rs n) (hi : rs[i]? = some (Ring.nd id st tk Zj vj)) (ht : tk'.length ≤ 1048576) : Shp Z (rs.set i (Ring.nd id' st' tk' Zj vj)) n := by
  have hz : ∀ {j : Nat} {r : SV} {b : Nat}, (rs.set i (Ring.nd id' st' tk' Zj vj))[j]? = some r → Zn b r → ∃ r', rs[j]? = some r' ∧ Zn b r' := by
    intro j r b hj hb
    rcases set_get hj with ⟨rfl, rfl⟩ | ⟨_, h2⟩
    · exact ⟨_, hi, nd_zn (zn_nd hb)⟩
    · exact ⟨_, h2, hb⟩
  refine ⟨by simp [h.len], fun a c b ra rc ha hc hba hbc => ?_, fun r hr b hb => ?_, fun j r hj => ?_⟩
  · obtain ⟨x, h1, h2⟩ := hz ha hba
    obtain ⟨y, h3, h4⟩ := hz hc hbc
    exact h.ap a c b x y h1 h3 h2 h4
  · obtain ⟨j, hj⟩ := List.getElem?_of_mem hr
    obtain ⟨x, h1, h2⟩ := hz hj hb
    exact h.zn x (List.mem_of_getElem? h1) b h2
  · rcases set_get hj with ⟨rfl, rfl⟩ | ⟨_, h2⟩
    · exact ⟨id', st', tk', Zj, vj, rfl, ht⟩
    · exact h.nd j r h2
theorem set_self_get {rs : List SV} {i : Nat} {x y : SV} (h : rs[i]? = some y) : (rs.set i x)[i]? = some x := by
  rw [List.getElem?_set, if_pos rfl, if_pos (slt h)]
theorem mk_row {Z : Nat → Prop} {rs : List SV} {n i T : Nat} {id : ByteArray} {st : Int} {tk : List Int} {Zj : Nat → Prop} {vj : Value} (h : Shp Z rs n) (hi : rs[i]? = some (nd id st tk Zj vj)) (s' : SV) :
    MkE Zj (ints tk) s' vj (.row 3 T rs) (.row 3 T (rs.set i (.agg [str id, int st, .tr Zj s' vj]))) := by
  refine .row (by simp) fun j x x' hx hx' => ?_
  rcases set_get hx' with ⟨rfl, rfl⟩ | ⟨hne, h2⟩
  · rw [hi] at hx
    cases hx
    refine .agg _ _ rfl fun q y y' hy hy' => ?_
    match q, hy, hy' with
    | 0, hy, hy' => simp at hy hy'; subst hy hy'; exact .raw _
    | 1, hy, hy' => simp at hy hy'; subst hy hy'; exact .raw _
    | 2, hy, hy' => simp at hy hy'; subst hy hy'; exact .same
    | q + 3, hy, hy' => simp at hy
  · rw [hx] at h2
    cases h2
    obtain ⟨id2, st2, tk2, Z2, v2, rfl, _⟩ := h.nd j x hx
    refine .agg _ _ rfl fun q y y' hy hy' => ?_
    match q, hy, hy' with
    | 0, hy, hy' => simp at hy hy'; subst hy hy'; exact .raw _
    | 1, hy, hy' => simp at hy hy'; subst hy hy'; exact .raw _
    | 2, hy, hy' =>
      simp at hy hy'; subst hy hy'
      exact .other _ _ _ fun b hb hb' => hne (h.ap j i b _ _ hx hi (nd_zn hb) (nd_zn hb'))
    | q + 3, hy, hy' => simp at hy
def stripN : SV → SV
  | .agg [a, b, .tr _ s _] => .agg [a, b, s]
  | s => s
theorem gd_strip (id : ByteArray) (st : Int) (tk : List Int) (Z : Nat → Prop) (v : Value) : Gd (nd id st tk Z v) (stripN (nd id st tk Z v)) := gd_node (x := ⟨id, st, tk⟩) Z v
theorem f59_m (l : List RingNode) (hl : l.length ≤ 1048576) (hs : ∀ x ∈ l, x.toks.length ≤ 1048576) (k : Nat) (h0 : 1 ≤ k) (hk : k ≤ 1125899906842624) : MarkC Try.prog 59 (eRingNodeS l) k (fun k' _ => ∃ m : Nat, k' = m) := by
  refine fnm_ok (t := 4) (n := 3) (l := l.map eRingNode) Try.func59 rfl rfl rfl (by decide) (fun hn w v hr => ?_) (fun w0 Z v T rs hlen hpos hgd hap hzn => ?_)
  · exact (hnil_of (f59_n k) w v hr).mono fun e w' ⟨he, hx⟩ => ⟨_, _, he, ⟨k, rfl⟩, rfl, hx⟩
  · rw [List.length_map] at hlen
    have hS0 : Shp Z rs l.length := by
      refine ⟨hlen, hap, hzn, fun j r hr => ?_⟩
      obtain ⟨x, hx⟩ := sget (l := l) (i := j) (by have := slt hr; omega)
      obtain ⟨Zj, vj, rfl⟩ := gd_node_inv (hgd j r _ hr (mget hx))
      exact ⟨x.id, x.st, x.toks, Zj, vj, rfl, hs x (smem hx)⟩
    refine ok_seq fun K1 h1 => ok_region rfl (q_as _ rfl (run_nil (h1 _ ?_))); clear h1 K1
    refine ok_seq fun K2 h2 => ?_
    refine ok_seq fun K3 h3 => ok_region rfl (q_as _ rfl (run_nil (h3 _ ?_))); clear h3 K3
    refine ok_block ?_
    refine ok_loop (fun (s : Nat × Nat × List SV) => ⟨[(0, .own 0), (1, .sv (int (s.2.1 : Int))), (5, .sv (int s.1))], [(0, .row 3 T s.2.2)]⟩) (fun s => s.1 ≤ l.length ∧ 1 ≤ s.2.1 ∧ s.2.1 ≤ k + s.1 * 2097152 ∧ Shp Z s.2.2 l.length) (fun s => l.length - s.1) (0, k, rs) ⟨Nat.zero_le _, h0, by simp, hS0⟩ (le_sub ⟨rfl, rfl, rfl, trivial⟩ ⟨rfl, trivial⟩) (fun s J => ?_)
    obtain ⟨i, kk, rs⟩ := s
    obtain ⟨j1, j2, j3, j4⟩ := J
    simp only at j1 j2 j3 j4
    have hkb : kk ≤ 4503599627370496 := by omega
    refine ok_seq fun K4 h4 => ?_
    refine ok_seq fun K5 h5 => ok_region rfl (q_mv _ rfl (q_mo _ rfl (q_leno eS44 rfl rfl (q_bin _ _ _ rfl rfl rfl (run_nil (h5 _ ?_)))))); clear h5 K5
    refine ok_cond rfl (fun c6 => ?_) (fun c6 => ?_)
    · have hi : i < rs.length := by simpa using c6
      obtain ⟨r, hr⟩ := sget hi
      obtain ⟨id, st, tk, Zj, vj, rfl, htk⟩ := j4.nd i r hr
      have hrl := j4.len
      have hr1 := set_self_get (x := nd (markT kk) st tk Zj vj) hr
      have S1 := j4.set (id' := markT kk) (st' := st) hr htk
      have hr2 := set_self_get (x := nd (markT kk) ((kk + 1 : Nat) : Int) tk Zj vj) hr1
      have S2 := S1.set (id' := markT kk) (st' := ((kk + 1 : Nat) : Int)) hr1 htk
      refine ok_skip (h4 _ ?_)
      refine ok_seq fun K7 h7 => ?_
      refine ok_block ?_
      refine ok_seq fun K8 h8 => ok_region rfl (q_mo _ rfl (q_mv _ rfl (q_mv _ rfl (q_call (f60_ok kk j2 (by omega)) cl60 rfl rfl (q_iao el44 rfl rfl rfl (by omega) (by show ((i : Int)).toNat < rs.length; omega) (q_fae fd88_0 rfl (by decide) (q_stef sz9 rfl rfl hr (by simp) rfl rfl rfl (run_nil (h8 _ ?_))))))))); clear h8 K8
      refine ok_seq fun K9 h9 => ok_region rfl (q_mv _ rfl (q_add rfl rfl (by show -9223372036854775808 ≤ (kk : Int) + 1 ∧ (kk : Int) + 1 ≤ 9223372036854775807; omega) (q_as _ rfl (run_nil (h9 _ ?_))))); clear h9 K9
      refine ok_seq fun K10 h10 => ok_region rfl (q_mo _ rfl (q_mv _ rfl (q_mv _ rfl (q_iao el44 rfl rfl rfl (by omega) (by show ((i : Int)).toNat < (rs.set _ _).length; rw [List.length_set]; omega) (q_fae fd88_1 rfl (by decide) (q_stef sz3 rfl rfl hr1 (by simp) rfl rfl rfl (run_nil (h10 _ ?_)))))))); clear h10 K10
      refine ok_seq fun K11 h11 => ok_region rfl (q_mv _ rfl (q_add rfl rfl (by show -9223372036854775808 ≤ (kk : Int) + 1 + 1 ∧ (kk : Int) + 1 + 1 ≤ 9223372036854775807; omega) (q_as _ rfl (run_nil (h11 _ ?_))))); clear h11 K11
      refine ok_last fun K12 h12 => ok_region rfl (
        q_mo _ rfl (q_mv _ rfl (q_iao el44 rfl rfl rfl (by omega) (by show ((i : Int)).toNat < ((rs.set _ _).set _ _).length; rw [List.length_set, List.length_set]; omega) (q_fae fd88_2 rfl (by decide) (q_ldef (.tr Zj (ints tk) vj) ag27 rfl rfl hr2 rfl (q_mv _ rfl (
        q_mark (k := ((kk + 2 : Nat) : Int)) (f15_m tk htk (kk + 2) (by omega)) cl15 rfl rfl (fun b hb => .inr (S2.zn _ (smem hr2) b (nd_zn hb))) (fun _ => mkDT _) (fun s' => [(0, .row 3 T (_))]) (fun s' => mkDT_ok _) (fun s' => ⟨rfl, mk_row S2 hr2 s', trivial⟩) (fun k' s' hR => ?_))))))))
      obtain ⟨rfl, tk', rfl, htk'⟩ := hR
      refine q_as _ rfl (run_nil (h12 _ (h7 _ ?_)))
      refine ok_last fun K13 h13 => ok_region rfl (
        q_mv _ rfl (q_add rfl rfl (by show -9223372036854775808 ≤ (i : Int) + 1 ∧ (i : Int) + 1 ≤ 9223372036854775807; omega) (q_as _ rfl (run_nil (h13 _ (⟨(i + 1, kk + 2 + tk.length, _), by simp only; omega, ⟨by simp only; omega, by simp only; omega, by simp only; omega, S2.set (id' := markT kk) (st' := ((kk + 1 : Nat) : Int)) hr2 (by omega : tk'.length ≤ 1048576)⟩, le_sub ⟨rfl, rfl, rfl, trivial⟩ ⟨rfl, trivial⟩⟩))))))
    · refine ok_exit (h2 _ ?_)
      refine ok_seq fun K14 h14 => ok_region rfl (q_mv _ rfl (q_as _ rfl (run_nil (h14 _ ?_)))); clear h14 K14
      refine ok_ret ⟨_, rs, rs.map stripN, rfl, rfl, by simp, fun j r s hr hs' => ?_, j4.ap, j4.zn, kk, rfl⟩
      rw [List.getElem?_map, hr] at hs'
      simp only [Option.map_some, Option.some.injEq] at hs'
      subst hs'
      obtain ⟨id, st, tk, Zj, vj, rfl, _⟩ := j4.nd j r hr
      exact gd_strip _ _ _ _ _
theorem mk_ring_cells {Z : Nat → Prop} {s s' : SV} {v : Value} {c : Int} {i : Nat} {x x' : LV} (hx : [LV.sv (int c), .sv (.tr Z s v)][i]? = some x) (hx' : [LV.sv (int c), .sv (.tr Z s' v)][i]? = some x') : MkL Z s s' v x x' := by
  match i, hx, hx' with
  | 0, hx, hx' => simp at hx hx'; subst hx hx'; exact .sv (.raw _)
  | 1, hx, hx' => simp at hx hx'; subst hx hx'; exact .sv .same
  | i + 2, hx, hx' => simp at hx
theorem f25_m (c : Int) (l : List RingNode) (hl : l.length ≤ 1048576) (hs : ∀ x ∈ l, x.toks.length ≤ 1048576) (k : Nat) (h0 : 1 ≤ k) (hk : k ≤ 1125899906842624) (w : World) (Z : Nat → Prop) (v : Value) (hT : Tree w Z (eRingNodeS l) v) (hZ : ∀ b, Z b → b < w.heap.size) :
    Calls Try.prog 25 #[.agg #[.int .i64 c, v], .int .i64 k] w fun e w' => ∃ k' s', e = .returned (.int .i64 k') ∧ (∃ m : Nat, k' = m) ∧ Chg Z w w' ∧ Tree w' Z s' v := by
  refine fnw_ok (t := 4) (bx := 2) (R := fun k' _ => ∃ m : Nat, k' = m) Try.func25 rfl rfl rfl (by decide) ⟨_, _, rfl⟩ (fun w0 Z v => ?_) w Z v hT hZ
  refine ok_seq fun K1 h1 => ok_region rfl (q_boxo _ rfl (.inl ⟨_, rfl⟩) rfl rfl rfl (q_as _ rfl (run_nil (h1 _ ?_)))); clear h1 K1
  refine ok_seq fun K2 h2 => ok_region rfl (q_fap fd46_1 rfl (by decide) (q_ldb _ ag44 rfl rfl rfl (q_mv _ rfl (q_mark (f59_m l hl hs k h0 hk) cl59 rfl rfl (fun b hb => .inr hb) (fun _ => mkDT _) (fun s' => [(2, .box [.sv (int c), .sv (.tr Z s' v)])]) (fun s' => mkDT_ok _) (fun s' => ⟨rfl, .box rfl (fun i x x' hx hx' => mk_ring_cells hx hx'), trivial⟩) (fun k' s' hR => ?_)))))
  obtain ⟨m, rfl⟩ := hR
  refine q_as _ rfl (run_nil (h2 _ ?_))
  refine ok_seq fun K3 h3 => ok_region rfl (q_mv _ rfl (q_as _ rfl (run_nil (h3 _ ?_)))); clear h3 K3
  exact ok_ret ⟨_, s', _, rfl, ⟨m, rfl⟩, rfl⟩
end Go.Ring

