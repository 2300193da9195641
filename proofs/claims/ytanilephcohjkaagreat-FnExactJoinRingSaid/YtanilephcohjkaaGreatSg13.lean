/- Parts of the proof, laid together: N1 N2 N3 O1 M4 P3. No condition. -/
import Derived.Test.YtanilephcohjkaaGreatSg11
import Derived.Test.YtanilephcohjkaaGreatSg12
import Derived.Test.YtanilephcohjkaaGreatEg3
import Derived.Test.YtanilephcohjkaaGreatSg5
/- A node's series repaired: plain; who owns a series. No condition beyond the sizes. -/
set_option maxRecDepth 100000
set_option linter.unusedVariables false
set_option linter.unusedSimpArgs false
namespace Go.Ring
open Go Go.RowKit Go.Eager Go.Abs Go.Proofs
theorem f134_ok (x : List Series) (hx : x.length ≤ 1048576) (p : Series → Bool) (g : Nat) (cs : List SV) (hg : Calb Tryz.prog g) (hp : ∀ u ∈ x, PFn Tryz.prog g ([eSeries u] ++ cs) (bool (p u))) : PFn Tryz.prog 134 [eSeriesS x, .clo g cs] (eSeriesS ((x.filter p))) := by
  refine fnr_ok (n := 23) Tryz.func134 rfl rfl rfl (Nat.le_of_ble_eq_true rfl) rfl fun w0 O => ?_
  refine ok_seq fun K1 h1 => ok_region rfl (q_as _ rfl (run_nil (h1 _ ?_)))
  refine ok_seq fun K2 h2 => ok_region rfl (q_an (n := 2) 125 (by decide) rfl rfl rfl (run_nil (h2 _ ?_)))
  refine ok_seq fun K3 h3 => ?_
  refine ok_seq fun K4 h4 => ok_region rfl (q_mv _ rfl (q_len eS63 rfl (q_mv _ rfl (run_nil (h4 _ ?_)))))
  rw [List.length_map]
  refine ok_block ?_
  refine ok_loop (fun (s : Nat × List Series) => ⟨[(1, .sv (.clo g cs)), (5, .own 5), (8, .sv (eSeriesS x)), (9, .sv (int x.length)), (10, .sv (int s.1))], [(5, .row 2 125 (s.2.map eSeries))]⟩) (fun s => s.2 ++ (x.drop s.1).filter p = x.filter p ∧ s.2.length ≤ s.1) (fun s => x.length - s.1) (0, []) ⟨rfl, Nat.le_refl _⟩ (le_sub ⟨rfl, rfl, rfl, rfl, rfl, trivial⟩ ⟨rfl, trivial⟩) (fun s J => ?_)
  obtain ⟨k, q⟩ := s
  obtain ⟨j1, j2⟩ := J
  simp only at j1 j2
  refine ok_seq fun K5 h5 => ok_region rfl (q_bin _ _ _ rfl rfl rfl (run_nil (h5 _ ?_)))
  refine ok_seq fun K6 h6 => ?_
  refine ok_cond rfl (fun c7 => ?_) (fun c7 => ?_)
  · have hk : k < x.length := by simpa using c7
    obtain ⟨u, hu⟩ := sget hk
    have hd : (x.drop k).filter p = if p u = true then u :: (x.drop (k + 1)).filter p else (x.drop (k + 1)).filter p := by
      obtain ⟨hlt, he⟩ := List.getElem?_eq_some_iff.1 hu
      rw [List.drop_eq_getElem_cons hlt, he, List.filter_cons]
    rw [hd] at j1
    refine ok_skip (h6 _ ?_)
    refine ok_seq_join (fun (q' : List Series) => ⟨[(1, .sv (.clo g cs)), (5, .own 5), (8, .sv (eSeriesS x)), (9, .sv (int x.length)), (10, .sv (int k))], [(5, .row 2 125 (q'.map eSeries))]⟩) (fun q' => q' ++ (x.drop (k + 1)).filter p = x.filter p ∧ q'.length ≤ k + 1) ?_ (fun q' J => ?_)
    · refine ok_block ?_
      refine ok_seq fun K8 h8 => ok_region rfl (q_ia el63 rfl rfl (by omega) (mget (f := eSeries) hu) (q_lds _ ag125 rfl sz125 (q_alloc _ ze125 rfl rfl rfl rfl (q_sts _ rfl rfl rfl sz125 (Nat.le_of_ble_eq_true rfl) rfl (run_nil (h8 _ ?_))))))
      refine ok_seq fun K9 h9 => ok_region rfl (q_mv _ rfl (q_ldbs ag125 rfl rfl sz125 rfl rfl (q_callcp (hp u (smem hu)) hg rfl ⟨.inl rfl, trivial⟩ (run_nil (h9 _ ?_)))))
      refine ok_cond rfl (fun c10 => ?_) (fun c10 => ?_)
      · rw [if_pos (by simpa using c10)] at j1
        refine ok_last fun K11 h11 => ok_region rfl (q_mo _ rfl (q_ldbs ag125 rfl rfl sz125 rfl rfl (q_lit1 _ _ el63 ze125 (by decide) (by decide) rfl (.inl ⟨_, rfl⟩) rfl (q_app _ el63 ze125 rfl by125 rfl rfl rfl rfl rfl (by simp) (by intro s hs; simp at hs; subst hs; exact .inl ⟨_, rfl⟩) (by rw [List.length_map]; show q.length + 1 ≤ maxLen; unfold maxLen; omega) (by rw [List.length_map]; show (q.length + 1) * 48 ≤ _; omega) (q_ao _ rfl (run_nil (h11 _ ⟨q ++ [u], ⟨by rw [List.append_assoc]; exact j1, by rw [List.length_append]; simp; omega⟩, by rw [List.map_append]; exact le_rek 5 20 ⟨rfl, rfl, rfl, rfl, rfl, trivial⟩ ⟨rfl, trivial⟩ rfl rfl rfl rfl ⟨rfl, trivial⟩⟩)))))))
      · rw [if_neg (by simpa using c10)] at j1
        exact ok_skip ⟨q, ⟨j1, by omega⟩, le_sub ⟨rfl, rfl, rfl, rfl, rfl, trivial⟩ ⟨rfl, trivial⟩⟩
    · refine ok_last fun K12 h12 => ok_region rfl (q_add rfl rfl (by omega) (q_mv _ rfl (run_nil (h12 _ ⟨(k + 1, q'), by simp only; omega, J, le_sub ⟨rfl, rfl, rfl, rfl, rfl, trivial⟩ ⟨rfl, trivial⟩⟩))))
  · rw [List.drop_of_length_le (by have : ¬ ((k : Int) < x.length) := by simpa using c7
                                   omega)] at j1
    have j3 : q = x.filter p := by rw [← j1]; simp
    refine ok_exit (h3 _ ?_)
    refine ok_seq fun K13 h13 => ok_region rfl (q_mo _ rfl (q_ao _ rfl (run_nil (h13 _ ?_))))
    exact ok_ret ⟨_, ⟨_, _, rfl, rfl, rfl⟩, by rw [← j3]; rfl⟩
theorem place_in (x : List Label) : 0 ≤ placeL x ∧ placeL x < 2147483648 := by
  unfold placeL
  split
  · have h0 : 0 ≤ hashL x := by
      have h1 := mixL_in (labText x).data.toList 1469598103 (by omega) (by omega)
      have e : hashL x = mixL (labText x).data.toList 1469598103 / 2 := rfl
      omega
    exact ⟨Int.tmod_nonneg _ h0, Int.tmod_lt_of_pos _ (by decide)⟩
  · omega
noncomputable def ownB (r : Ring) (i : Nat) (l : List Label) : Bool := decide (i ∈ ownL r (placeL l))
noncomputable def repG (c : Cluster) (i : Nat) (d : List Series) : List Series := jn d ((allU c.ring.nodes c.data).filter fun s => ownB c.ring i s.labels)
noncomputable def repR (c : Cluster) (i : Nat) (d : List Series) : List Series := if pB (SeriesOk (repG c i d)) = true then repG c i d else d
theorem jn_smp {a b : List Series} (na : Nice a) (nb : Nice b) {A B : Nat} (h2 : ∀ s ∈ a, s.samples.length ≤ A) (h3 : ∀ s ∈ b, s.samples.length ≤ B) : ∀ x ∈ jn a b, x.samples.length ≤ A + B := fun x hx => by
  have e := lk_jn (t := x.labels) na.s nb.s
  rw [lk_self (na.jn nb).s hx] at e
  cases p : lk x.labels a with
  | none =>
    cases q : lk x.labels b with
    | none => rw [p, q] at e; cases e
    | some w =>
      rw [p, q] at e; cases e
      obtain ⟨y, hy, _, hw⟩ := lk_mem q
      have := h3 y hy
      rw [hw] at this
      omega
  | some v =>
    obtain ⟨z, hz, _, hv⟩ := lk_mem p
    have h6 := h2 z hz
    rw [hv] at h6
    cases q : lk x.labels b with
    | none => rw [p, q] at e; simp only [op2, Option.some.injEq] at e; rw [e]; omega
    | some w =>
      rw [p, q] at e
      simp only [op2, Option.some.injEq] at e
      obtain ⟨y, hy, _, hw⟩ := lk_mem q
      have h7 := h3 y hy
      rw [hw] at h7
      have h8 := grM_len v w
      rw [e]
      omega
theorem jnAll_small {B L : Nat} : ∀ {ls : List (List Series)} {a : List Series} {A : Nat}, Nice a → (∀ l ∈ ls, Nice l) → (∀ s ∈ a, s.samples.length ≤ A) → (∀ l ∈ ls, ∀ s ∈ l, s.samples.length ≤ B) → (∀ l ∈ ls, l.length ≤ L) →
    (∀ s ∈ jnAll ls a, s.samples.length ≤ A + ls.length * B) ∧ (jnAll ls a).length ≤ a.length + ls.length * L
  | [], a, A, ha, _, h, _, _ => ⟨fun s hs => by have := h s hs; simp; omega, by simp [jnAll]⟩
  | l :: ls, a, A, ha, hn, h, hB, hL => by
    have nl := hn l (List.mem_cons_self ..)
    have h1 := jn_smp ha nl h (hB l (List.mem_cons_self ..))
    have h2 := jn_len l a
    have h3 := hL l (List.mem_cons_self ..)
    obtain ⟨g1, g2⟩ := jnAll_small (ls := ls) (a := jn a l) (A := A + B) (ha.jn nl) (fun x hx => hn x (List.mem_cons_of_mem _ hx)) h1 (fun x hx => hB x (List.mem_cons_of_mem _ hx)) (fun x hx => hL x (List.mem_cons_of_mem _ hx))
    have e1 : (ls.length + 1) * B = ls.length * B + B := Nat.succ_mul _ _
    have e2 : (ls.length + 1) * L = ls.length * L + L := Nat.succ_mul _ _
    refine ⟨fun s hs => ?_, ?_⟩
    · have := g1 s hs
      rw [List.length_cons, e1]
      omega
    · show (jnAll ls (jn a l)).length ≤ _
      rw [List.length_cons, e2]
      omega
theorem upsL_len : ∀ (ns : List RingNode) (ds : List (List Series)), (upsL ns ds).length ≤ ds.length
  | [], ds => by simp [upsL]
  | _ :: _, [] => by simp [upsL]
  | m :: ns, e :: ds => by
    have ih := upsL_len ns ds
    simp only [upsL]
    split <;> simp only [List.length_cons] <;> omega
theorem ser_small {l : List Series} (h : SeriesOk l) : l.length ≤ 200 ∧ ∀ s ∈ l, s.samples.length ≤ 2000 := ⟨h.1, fun s hs => ((ser_iff.1 h).2.1 s hs).2.2.1.1⟩
theorem dat_ok {c : Cluster} (hk : ClusterOk c) : c.data.length ≤ 20 ∧ ∀ d ∈ c.data, SeriesOk d :=
  ⟨by have h1 := hk.2.1; have h2 := hk.1.2.2.1; omega, fun d hd => by
    obtain ⟨i, hi⟩ := List.getElem?_of_mem hd
    exact hk.2.2 i d hi⟩
theorem filter_small {l : List Series} (h : l.length ≤ 200 ∧ ∀ s ∈ l, s.samples.length ≤ 2000) (f : Series → Bool) : (l.filter f).length ≤ 200 ∧ ∀ s ∈ l.filter f, s.samples.length ≤ 2000 :=
  ⟨Nat.le_trans (List.length_filter_le _ _) h.1, fun s hs => h.2 s (List.mem_filter.1 hs).1⟩
theorem room_of {a b : List Series} {A B : Nat} (h1 : a.length + b.length ≤ 1048576) (h2 : ∀ s ∈ a, s.samples.length ≤ A) (h3 : ∀ s ∈ b, s.samples.length ≤ B) (h4 : A + B ≤ 1048576) : Room a b := ⟨h1, A, B, h2, h3, h4⟩
theorem rep_at {c : Cluster} (hc : SCluster c) (hk : ClusterOk c) (hd : DatOk c.data) (f : List Label → Bool) {own : List Series} (ho : Nice own) (hs : own.length ≤ 200 ∧ ∀ s ∈ own, s.samples.length ≤ 2000) (m : Nat) :
    Nice (jnAll ((upsL c.ring.nodes (c.data.take m)).map fun l => l.filter fun s => f s.labels) own) ∧ (jnAll ((upsL c.ring.nodes (c.data.take m)).map fun l => l.filter fun s => f s.labels) own).length ≤ 4200 ∧ ∀ s ∈ jnAll ((upsL c.ring.nodes (c.data.take m)).map fun l => l.filter fun s => f s.labels) own, s.samples.length ≤ 42000 := by
  obtain ⟨k1, k2⟩ := dat_ok hk
  have hm : ∀ l ∈ (upsL c.ring.nodes (c.data.take m)).map (fun l => l.filter fun s => f s.labels), ∃ d ∈ c.data, l = d.filter fun s => f s.labels := fun l hl => by
    obtain ⟨d, hdd, rfl⟩ := List.mem_map.1 hl
    exact ⟨d, List.mem_of_mem_take (upsL_mem hdd), rfl⟩
  have hN : ∀ l ∈ (upsL c.ring.nodes (c.data.take m)).map (fun l => l.filter fun s => f s.labels), Nice l := fun l hl => by
    obtain ⟨d, hdd, rfl⟩ := hm l hl
    exact (hd.n d hdd).filter _
  obtain ⟨g1, g2⟩ := jnAll_small (B := 2000) (L := 200) ho hN hs.2 (fun l hl => by
    obtain ⟨d, hdd, rfl⟩ := hm l hl
    exact (filter_small (ser_small (k2 d hdd)) _).2) (fun l hl => by
    obtain ⟨d, hdd, rfl⟩ := hm l hl
    exact (filter_small (ser_small (k2 d hdd)) _).1)
  have hl := upsL_len c.ring.nodes (c.data.take m)
  rw [List.length_take] at hl
  rw [List.length_map] at g1 g2
  have e1 : (upsL c.ring.nodes (c.data.take m)).length * 2000 ≤ 20 * 2000 := Nat.mul_le_mul_right _ (by omega)
  have e2 : (upsL c.ring.nodes (c.data.take m)).length * 200 ≤ 20 * 200 := Nat.mul_le_mul_right _ (by omega)
  exact ⟨jnAll_nice ho hN, by have := hs.1; omega, fun s hs => by have := g1 s hs; omega⟩
theorem allU_small {c : Cluster} (hk : ClusterOk c) (hd : DatOk c.data) : (allU c.ring.nodes c.data).length ≤ 4000 ∧ ∀ s ∈ allU c.ring.nodes c.data, s.samples.length ≤ 40000 := by
  obtain ⟨k1, k2⟩ := dat_ok hk
  obtain ⟨g1, g2⟩ := jnAll_small (B := 2000) (L := 200) (ls := upsL c.ring.nodes c.data) (A := 0) nice_nil (fun l hl => hd.n l (upsL_mem hl)) (fun s hs => by simp at hs) (fun l hl => (ser_small (k2 l (upsL_mem hl))).2) (fun l hl => (ser_small (k2 l (upsL_mem hl))).1)
  have hl := upsL_len c.ring.nodes c.data
  have e1 : (upsL c.ring.nodes c.data).length * 2000 ≤ 20 * 2000 := Nat.mul_le_mul_right _ (by omega)
  have e2 : (upsL c.ring.nodes c.data).length * 200 ≤ 20 * 200 := Nat.mul_le_mul_right _ (by omega)
  simp only [List.length_nil] at g2
  exact ⟨by unfold allU; omega, fun s hs => by have := g1 s hs; omega⟩
theorem repG_eq {c : Cluster} (hd : DatOk c.data) (i : Nat) {own : List Series} (ho : Nice own) : jnAll ((upsL c.ring.nodes c.data).map fun l => l.filter fun s => ownB c.ring i s.labels) own = repG c i own :=
  repaired_eq (fun l => ownB c.ring i l) ho _ fun l hl => hd.n l (upsL_mem hl)
theorem own_int (r : Ring) (p : Int) (i : Nat) : decide ((i : Int) ∈ (ownL r p).map fun (j : Nat) => (j : Int)) = decide (i ∈ ownL r p) := by
  rw [decide_eq_decide]
  constructor
  · intro h
    obtain ⟨j, hj, e⟩ := List.mem_map.1 h
    have e2 : (j : Int) = i := e
    have : j = i := by omega
    subst this; exact hj
  · intro h; exact List.mem_map.2 ⟨i, h, rfl⟩
theorem f135_ok (c : Cluster) (hc : SCluster c) (hg : GoodR c.ring) (i : Nat) (u : Series) (hu : SSeries u) : PFn Tryz.prog 135 ([eSeries u] ++ [.ptr (eCluster c), .ptr (.sl 2 (rowT (sortT (tks c.ring)))), .ptr (int i)]) (bool (ownB c.ring i u.labels)) := by
  have hl := tks_len hg
  have hsl : (sortT (tks c.ring)).length = (tks c.ring).length := (sortT_perm _).length_eq
  have hol := own_len hg (placeL u.labels)
  refine fn_ok' (n := 15) Tryz.func135 rfl rfl rfl (Nat.le_of_ble_eq_true rfl) rfl fun w0 O => ?_
  refine ok_seq fun K1 h1 => ok_region rfl (q_boxs _ rfl (Nat.zero_lt_succ _) (q_as _ rfl (run_nil (h1 _ ?_))))
  refine ok_seq fun K2 h2 => ok_region_d [0, 1, 1, 0, 1, 3, 3, 1, 3, 0] #[[], [0], [], [], [3], [3, 4], [0, 1, 2, 3, 4, 5], [], [0, 1, 2, 3, 4, 5, 6, 7], [0, 1, 2, 3, 4, 5, 6, 7, 8]] [0, 1, 2, 3, 4, 7, 5, 6, 8, 9] (by kernel_rfl) (by kernel_rfl) rfl rfl (q_fas fd34_0 rfl (by decide) (Nat.le_of_ble_eq_true rfl) rfl (q_lds _ ag31 rfl sz31 (q_ld (.sl 2 (rowT (sortT (tks c.ring)))) ag117 rfl rfl (q_fa _ fd125_0 rfl rfl (by decide) (q_ld (eLabelS u.labels) ag78 rfl rfl (q_ld (int i) ag3 rfl rfl (q_call (f87_ok u.labels hu.1) cl87 rfl rfl (
    q_call (f86_ok c.ring (sortT (tks c.ring)) (by omega) (sortT_lt (tks_distinct hg)) (placeL u.labels)) cl86 rfl rfl (q_call (f136_ok ((ownL c.ring (placeL u.labels)).map fun (j : Nat) => (j : Int)) (by rw [List.length_map]; omega) i) cl136 rfl rfl (q_as _ rfl (run_nil (h2 _ ?_))))))))))))
  refine ok_ret ⟨_, rfl, ?_⟩
  simp only [tupSV]
  rw [own_int]; rfl
end Go.Ring

/- A node's series repaired: the reference and the program. No condition beyond the sizes. -/
set_option maxRecDepth 100000
set_option linter.unusedVariables false
set_option linter.unusedSimpArgs false
namespace Go.Ring
open Go Go.RowKit Go.Eager Go.Abs Go.Proofs
theorem fil_step {α : Type} {l : List α} {k : Nat} {u : α} (f : α → Bool) (hu : l[k]? = some u) : (l.take (k + 1)).filter f = if f u = true then (l.take k).filter f ++ [u] else (l.take k).filter f := by
  rw [List.take_add_one, hu, Option.toList_some, List.filter_append]
  by_cases h : f u = true
  · rw [if_pos h, List.filter_cons, if_pos h]; rfl
  · rw [if_neg h, List.filter_cons, if_neg h]; simp
theorem f58_t (c : Cluster) (hc : SCluster c) (hk : ClusterOk c) (hd : DatOk c.data) (i : Nat) (d : List Series) (hi : c.data[i]? = some d) : PFnT Tryz.prog 58 [eCluster c, int i] (eSeriesS (repR c i d)) := by
  refine fnp_ok (n := 50) Tryz.func58 rfl rfl rfl (Nat.le_of_ble_eq_true rfl) rfl fun w0 O => ?_
  have hil := slt hi
  have hdl := hc.2.1
  have hsd := hc.2.2 d (smem hi)
  have hod := (dat_ok hk).2 d (smem hi)
  have hnd := hd.n d (smem hi)
  have hg := hk.1
  have hl := hk.2.1
  refine ok_seq fun K1 h1 => ok_region rfl (q_boxs _ rfl (Nat.zero_lt_succ _) (q_box (int i) rfl (.inr rfl) (q_as _ rfl (run_nil (h1 _ ?_)))))
  refine ok_seq fun K2 h2 => ok_region rfl (q_fas fd34_0 rfl (by decide) (Nat.le_of_ble_eq_true rfl) rfl (q_lds _ ag31 rfl sz31 (q_call (f83_ok c.ring hc.1 hg (by omega)) cl83 rfl rfl (q_alloc _ ze117 rfl rfl rfl rfl (q_st _ sz117 rfl rfl (Nat.le_of_ble_eq_true rfl) rfl ⟨_, rfl, rfl⟩ rfl (run_nil (h2 _ ?_)))))))
  refine Ok.le (le_fb1 5 (.sl 2 (rowT (sortT (tks c.ring)))) rfl) ?_
  refine ok_seq fun K3 h3 => ok_region rfl (q_fa _ fd34_1 rfl rfl (by decide) (q_ld _ ag32 rfl rfl (q_ld (int i) ag3 rfl rfl (q_ia el32 rfl rfl (by omega) (mget hi) (q_ld _ ag63 rfl rfl (q_callr (f133_t d hsd) cl133 rfl (fun r0 hr0 hz0 ha0 => ?_)))))))
  refine q_as _ rfl (run_nil (h3 _ ?_))
  refine ok_seq fun K7 h7 => ?_
  refine ok_seq fun K8 h8 => ok_region rfl (q_fa _ fd34_1 rfl rfl (by decide) (q_ld _ ag32 rfl rfl (q_len eS32 rfl (q_mv _ rfl (run_nil (h8 _ ?_))))))
  rw [List.length_map]
  refine ok_block ?_
  refine ok_loop (fun (s : Nat × SV) => ⟨[(2, .sv (.ptr (eCluster c))), (3, .sv (.ptr (int i))), (5, .sv (.ptr (.sl 2 (rowT (sortT (tks c.ring)))))), (6, .sv s.2), (19, .sv (eSeriesSS c.data)), (20, .sv (int c.data.length)), (21, .sv (int s.1))], []⟩) (fun s => Gd s.2 (eSeriesS (jnAll ((upsL c.ring.nodes (c.data.take s.1)).map fun l => l.filter fun s => ownB c.ring i s.labels) d)) ∧ ∀ b, Zn b s.2 → w0.heap.size ≤ b) (fun s => c.data.length - s.1) (0, r0) ⟨by rw [List.take_zero, upsL_nil]; exact hr0, hz0⟩ (le_sub ⟨rfl, rfl, rfl, rfl, rfl, rfl, rfl, trivial⟩ trivial) (fun s J => ?_)
  obtain ⟨k, r⟩ := s
  obtain ⟨jg, jz⟩ := J
  simp only at jg jz
  refine ok_seq fun K9 h9 => ok_region rfl (q_bin _ _ _ rfl rfl rfl (run_nil (h9 _ ?_)))
  refine ok_seq fun K10 h10 => ?_
  refine ok_cond rfl (fun c11 => ?_) (fun c11 => ?_)
  · refine ok_skip (h10 _ ?_)
    have hkk : k < c.data.length := by simpa using c11
    obtain ⟨u, huk⟩ := sget hkk
    obtain ⟨n, hnn⟩ := sget (l := c.ring.nodes) (i := k) (by omega)
    have hou := (dat_ok hk).2 u (smem huk)
    have hsu := hc.2.2 u (smem huk)
    obtain ⟨e2, e3, e4⟩ := rep_at hc hk hd (fun l => ownB c.ring i l) hnd (ser_small hod) k
    have hst : jnAll ((upsL c.ring.nodes (c.data.take (k + 1))).map fun l => l.filter fun s => ownB c.ring i s.labels) d = if n.st ≠ 2 then jn (jnAll ((upsL c.ring.nodes (c.data.take k)).map fun l => l.filter fun s => ownB c.ring i s.labels) d) (u.filter fun s => ownB c.ring i s.labels) else jnAll ((upsL c.ring.nodes (c.data.take k)).map fun l => l.filter fun s => ownB c.ring i s.labels) d := by
      rw [upsL_step hnn huk, List.map_append]
      split
      · rw [List.map_cons, List.map_nil, jnAll_snoc]
      · rw [List.map_nil, List.append_nil]
    refine ok_seq_join (fun (r' : SV) => ⟨[(2, .sv (.ptr (eCluster c))), (3, .sv (.ptr (int i))), (5, .sv (.ptr (.sl 2 (rowT (sortT (tks c.ring)))))), (6, .sv r'), (19, .sv (eSeriesSS c.data)), (20, .sv (int c.data.length)), (21, .sv (int k))], []⟩) (fun r' => Gd r' (eSeriesS (jnAll ((upsL c.ring.nodes (c.data.take (k + 1))).map fun l => l.filter fun s => ownB c.ring i s.labels) d)) ∧ ∀ b, Zn b r' → w0.heap.size ≤ b) ?_ (fun r' J' => ?_)
    · refine ok_block ?_
      refine ok_seq fun K12 h12 => ok_region rfl (q_mv _ rfl (q_ia el32 rfl rfl (by omega) (mget huk) (q_ld _ ag63 rfl rfl (q_as _ rfl (q_as _ rfl (run_nil (h12 _ ?_)))))))
      refine ok_seq fun K13 h13 => ?_
      refine ok_seq fun K14 h14 => ok_region rfl (q_fas fd34_0 rfl (by decide) (Nat.le_of_ble_eq_true rfl) rfl (q_fa _ fd31_1 rfl rfl (by decide) (q_ld _ ag29 rfl rfl (q_mv _ rfl (q_ia el29 rfl rfl (by omega) (mget (f := eRingNode) hnn) (q_fa _ fd45_1 rfl rfl (by decide) (q_ld (int n.st) ag3 rfl rfl (q_bin _ _ _ rfl rfl rfl (run_nil (h14 _ ?_))))))))))
      refine ok_cond rfl (fun c15 => ?_) (fun c15 => ?_)
      · have hst2 : ¬ n.st ≠ 2 := by simpa using c15
        rw [if_neg hst2] at hst
        exact ok_exit ⟨r, ⟨by rw [hst]; exact jg, jz⟩, le_sub ⟨rfl, rfl, rfl, rfl, rfl, rfl, rfl, trivial⟩ trivial⟩
      · have hst2 : n.st ≠ 2 := by simpa using c15
        rw [if_pos hst2] at hst
        refine ok_skip (h13 _ ?_)
        refine ok_last fun K16 h16 => ok_region rfl (q_mv r rfl (q_mv _ rfl (q_mkf (ss := [.ptr (eCluster c), .ptr (.sl 2 (rowT (sortT (tks c.ring)))), .ptr (int i)]) rfl (q_call (f134_ok u hsu.1 (fun s => ownB c.ring i s.labels) 135 _ cl135 fun s hs => f135_ok c hc hg i s (hsu.2 s hs)) cl134 rfl rfl (q_callg [] (f88_t _ _ e2 ((hd.n u (smem huk)).filter _) (room_of (by have := (filter_small (ser_small hou) fun s => ownB c.ring i s.labels).1; omega) e4 (filter_small (ser_small hou) fun s => ownB c.ring i s.labels).2 (by omega))) cl88 ⟨.inr (.inl ⟨_, rfl, jg⟩), .inl rfl, trivial⟩ (fun r2 hr2 hz2 ha2 => ?_))))))
        rw [← hst] at hr2
        refine q_as _ rfl (run_nil (h16 _ ⟨r2, ⟨hr2, hz2⟩, le_sub ⟨rfl, rfl, rfl, rfl, rfl, rfl, rfl, trivial⟩ trivial⟩))
    · refine ok_last fun K17 h17 => ok_region rfl (q_add rfl rfl (by omega) (q_mv _ rfl (run_nil (h17 _ ⟨(k + 1, r'), by simp only; omega, J', le_sub ⟨rfl, rfl, rfl, rfl, rfl, rfl, rfl, trivial⟩ trivial⟩))))
  · obtain ⟨e2, e3, e4⟩ := rep_at hc hk hd (fun l => ownB c.ring i l) hnd (ser_small hod) k
    have hkk : c.data.length ≤ k := by have : ¬ ((k : Int) < c.data.length) := by simpa using c11
                                       omega
    rw [List.take_of_length_le hkk, repG_eq hd i hnd] at jg e2 e3 e4
    have hres : (repG c i d).length ≤ 1048576 ∧ ∀ y ∈ repG c i d, SSeries y := ⟨by omega, fun y hy => ⟨e2.b y hy, by have := e4 y hy; omega⟩⟩
    obtain ⟨Z, v, rfl⟩ := gd_sl_inv jg
    refine ok_exit (h7 _ ?_)
    refine ok_seq fun K18 h18 => ?_
    refine ok_seq fun K19 h19 => ok_region rfl (q_mv _ rfl (q_callp (f89_ok _ hres) cl89 ⟨.inr (.inl ⟨_, rfl, .tr _ _ _ _⟩), trivial⟩ (q_un _ _ rfl rfl (run_nil (h19 _ ?_)))))
    refine ok_cond rfl (fun c20 => ?_) (fun c20 => ?_)
    · have e : repR c i d = d := by
        unfold repR
        rw [if_neg (by simpa using c20)]
      refine ok_seq fun K21 h21 => ok_region rfl (q_fa _ fd34_1 rfl rfl (by decide) (q_ld _ ag32 rfl rfl (q_ld (int i) ag3 rfl rfl (q_ia el32 rfl rfl (by omega) (mget hi) (q_ld _ ag63 rfl rfl (q_callr (f133_t d hsd) cl133 rfl (fun r1 hr1 hz1 ha1 => ?_)))))))
      refine q_as _ rfl (run_nil (h21 _ ?_))
      rw [e]
      exact ok_ret ⟨_, ⟨_, _, rfl, rfl, rfl⟩, hr1, hz1⟩
    · have e : repR c i d = repG c i d := by
        unfold repR
        rw [if_pos (by simpa using c20)]
      refine ok_skip (h18 _ ?_)
      refine ok_seq fun K22 h22 => ok_region rfl (q_mv _ rfl (q_as _ rfl (run_nil (h22 _ ?_))))
      refine ok_ret ⟨_, ⟨_, _, rfl, rfl, rfl⟩, ?_, jz⟩
      rw [e]
      exact .tr _ _ _ _
end Go.Ring

/- A node's series repaired: the reference's answer is a copy. No condition beyond the sizes. -/
set_option maxRecDepth 100000
set_option linter.unusedVariables false
set_option linter.unusedSimpArgs false
namespace Go.Ring
open Go Go.RowKit Go.Eager Go.Abs Go.Proofs
theorem f53_t (c : Cluster) (hc : SCluster c) (hk : ClusterOk c) (hd : DatOk c.data) (i : Nat) (d : List Series) (hi : c.data[i]? = some d) : PFnT Tryz.prog 53 [eCluster c, int i] (eSeriesS (repR c i d)) := by
  refine fnp_ok (n := 46) Tryz.func53 rfl rfl rfl (Nat.le_of_ble_eq_true rfl) rfl fun w0 O => ?_
  have hil := slt hi
  have hdl := hc.2.1
  have hsd := hc.2.2 d (smem hi)
  have hod := (dat_ok hk).2 d (smem hi)
  have hnd := hd.n d (smem hi)
  obtain ⟨a1, a2, a3⟩ := allU_inv (ns := c.ring.nodes) hd
  obtain ⟨b1, b2⟩ := allU_small hk hd
  have hss := lb_ss a1.b a2
  have hg := hk.1
  refine ok_seq fun K1 h1 => ok_region rfl (q_boxs _ rfl (Nat.zero_lt_succ _) (q_as _ rfl (run_nil (h1 _ ?_))))
  refine ok_seq fun K2 h2 => ok_region rfl (q_an (n := 2) 125 (by decide) rfl rfl rfl (run_nil (h2 _ ?_)))
  have hrg : repG c i d = jn d ((allU c.ring.nodes c.data).filter fun s => ownB c.ring i s.labels) := rfl
  have f95 := f95_ok c hc hk.2.1 hd
  generalize hA : allU c.ring.nodes c.data = A at *
  refine ok_seq fun K3 h3 => ?_
  refine ok_seq fun K4 h4 => ok_region rfl (q_lds _ ag34 rfl sz34 (q_call f95 cl95 rfl rfl (q_len eS63 rfl (q_mv _ rfl (run_nil (h4 _ ?_))))))
  rw [List.length_map]
  refine ok_block ?_
  refine ok_loop (fun (k : Nat) => ⟨[(1, .sv (int i)), (2, .sv (.ptr (eCluster c))), (5, .own 5), (10, .sv (eSeriesS A)), (11, .sv (int A.length)), (12, .sv (int k))], [(5, .row 2 125 (((A.take k).filter fun s => ownB c.ring i s.labels).map eSeries))]⟩) (fun k => True) (fun k => A.length - k) 0 trivial (le_sub ⟨rfl, rfl, rfl, rfl, rfl, rfl, trivial⟩ ⟨rfl, trivial⟩) (fun k J => ?_)
  refine ok_seq fun K5 h5 => ok_region rfl (q_bin _ _ _ rfl rfl rfl (run_nil (h5 _ ?_)))
  refine ok_seq fun K6 h6 => ?_
  refine ok_cond rfl (fun c7 => ?_) (fun c7 => ?_)
  · refine ok_skip (h6 _ ?_)
    have hkk : k < A.length := by simpa using c7
    obtain ⟨u, hu⟩ := sget hkk
    have nu := hss.2 u (smem hu)
    have hol := own_len hg (placeL u.labels)
    obtain ⟨hp0, hp1⟩ := place_in u.labels
    have hst := fil_step (fun s => ownB c.ring i s.labels) hu
    have hql : ((A.take k).filter fun s => ownB c.ring i s.labels).length ≤ 4000 := Nat.le_trans (List.length_filter_le _ _) (by rw [List.length_take]; omega)
    generalize hq : ((A.take k).filter fun s => ownB c.ring i s.labels) = q at *
    refine ok_seq_join (fun (L : List Series) => ⟨[(1, .sv (int i)), (2, .sv (.ptr (eCluster c))), (5, .own 5), (10, .sv (eSeriesS A)), (11, .sv (int A.length)), (12, .sv (int k))], [(5, .row 2 125 (L.map eSeries))]⟩) (fun L => L = (A.take (k + 1)).filter fun s => ownB c.ring i s.labels) ?_ (fun L hL => ?_)
    · refine ok_block ?_
      refine ok_seq fun K8 h8 => ok_region rfl (q_ia el63 rfl rfl (by omega) (mget (f := eSeries) hu) (q_lds _ ag125 rfl sz125 (q_alloc _ ze125 rfl rfl rfl rfl (q_sts _ rfl rfl rfl sz125 (Nat.le_of_ble_eq_true rfl) rfl (run_nil (h8 _ ?_))))))
      refine ok_seq fun K9 h9 => ok_region_d [0, 1, 0, 1, 3, 3, 0, 3] #[[], [0], [], [2], [2, 3], [0, 1, 2, 3, 4], [], [0, 1, 2, 3, 4, 5, 6]] [0, 1, 2, 3, 6, 4, 5, 7] (by kernel_rfl) (by kernel_rfl) rfl rfl (
        q_fas fd34_0 rfl (by decide) (Nat.le_of_ble_eq_true rfl) rfl (q_lds _ ag31 rfl sz31 (q_fap fd125_0 rfl (by decide) (q_ldb (.sv (eLabelS u.labels)) ag78 rfl rfl rfl (q_mv _ rfl (q_call (f80_ok u.labels nu.1) cl80 rfl rfl (q_call (f79_ok c.ring hc.1 hg (placeL u.labels) hp0 hp1) cl79 rfl rfl (
        q_call (f125_ok ((ownL c.ring (placeL u.labels)).map fun (j : Nat) => (j : Int)) i (by rw [List.length_map]; omega)) cl125 rfl rfl (run_nil (h9 _ ?_))))))))))
      rw [own_int]
      refine ok_cond rfl (fun c10 => ?_) (fun c10 => ?_)
      · rw [if_pos (show ownB c.ring i u.labels = true by simpa [ownB] using c10)] at hst
        refine ok_last fun K11 h11 => ok_region rfl (q_mo _ rfl (q_ldbs (r := [eLabelS u.labels, eSampleS u.samples]) ag125 rfl rfl sz125 rfl rfl (q_lit1 _ _ el63 ze125 (by decide) (by decide) rfl (.inl ⟨_, rfl⟩) rfl (q_app _ el63 ze125 rfl by125 rfl rfl rfl rfl rfl (by simp) (by intro s hs; simp at hs; subst hs; exact .inl ⟨_, rfl⟩) (by rw [List.length_map]; show q.length + 1 ≤ maxLen; unfold maxLen; omega) (by rw [List.length_map]; show (q.length + 1) * 48 ≤ _; omega) (
          q_ao _ rfl (run_nil (h11 _ ⟨q ++ [u], hst.symm, ?_⟩)))))))
        rw [List.map_append]
        exact le_rek 5 27 ⟨rfl, rfl, rfl, rfl, rfl, rfl, trivial⟩ ⟨rfl, trivial⟩ rfl rfl rfl rfl ⟨rfl, trivial⟩
      · rw [if_neg (show ¬ ownB c.ring i u.labels = true by simpa [ownB] using c10)] at hst
        exact ok_skip ⟨q, hst.symm, le_sub ⟨rfl, rfl, rfl, rfl, rfl, rfl, trivial⟩ ⟨rfl, trivial⟩⟩
    · subst hL
      refine ok_last fun K14 h14 => ok_region rfl (q_add rfl rfl (by omega) (q_mv _ rfl (run_nil (h14 _ ⟨k + 1, by omega, trivial, le_sub ⟨rfl, rfl, rfl, rfl, rfl, rfl, trivial⟩ ⟨rfl, trivial⟩⟩))))
  · rw [List.take_of_length_le (by have : ¬ ((k : Int) < A.length) := by simpa using c7
                                   omega)]
    have hfl : (A.filter fun s => ownB c.ring i s.labels).length ≤ 4000 := Nat.le_trans (List.length_filter_le _ _) b1
    have hfn := a1.filter fun s => ownB c.ring i s.labels
    have hfs : ∀ s ∈ A.filter (fun s => ownB c.ring i s.labels), s.samples.length ≤ 40000 := fun s hs => b2 s (List.mem_filter.1 hs).1
    have hrm : Room d (A.filter fun s => ownB c.ring i s.labels) := room_of (by have := (ser_small hod).1; omega) (ser_small hod).2 hfs (by omega)
    have f126 := f126_t d _ hnd hfn hrm
    rw [← hrg] at f126
    have hres : (repG c i d).length ≤ 1048576 ∧ ∀ y ∈ repG c i d, SSeries y := by
      rw [hrg]
      have g1 := jn_len (A.filter fun s => ownB c.ring i s.labels) d
      have g2 := jn_smp hnd hfn (ser_small hod).2 hfs
      have g3 := (hnd.jn hfn).b
      exact ⟨by have := (ser_small hod).1; omega, fun y hy => ⟨g3 y hy, by have := g2 y hy; omega⟩⟩
    refine ok_exit (h3 _ ?_)
    refine Ok.le (le_fz 5 rfl) ?_
    refine ok_seq fun K15 h15 => ok_region rfl (q_fa _ fd34_1 rfl rfl (by decide) (q_ld _ ag32 rfl rfl (q_mv _ rfl (q_ia el32 rfl rfl (by omega) (mget hi) (q_ld _ ag63 rfl rfl (q_mv (eSeriesS (A.filter fun s => ownB c.ring i s.labels)) rfl (q_callr f126 cl126 rfl (fun r2 hr2 hz2 ha2 => ?_))))))))
    obtain ⟨Z, v, rfl⟩ := gd_sl_inv hr2
    refine q_as _ rfl (run_nil (h15 _ ?_))
    refine ok_seq fun K16 h16 => ?_
    refine ok_seq fun K17 h17 => ok_region rfl (q_mv _ rfl (q_callp (f96_ok _ hres) cl96 ⟨.inr (.inl ⟨_, rfl, .tr _ _ _ _⟩), trivial⟩ (q_un _ _ rfl rfl (run_nil (h17 _ ?_)))))
    refine ok_cond rfl (fun c18 => ?_) (fun c18 => ?_)
    · have e : repR c i d = d := by
        unfold repR
        rw [if_neg (by simpa using c18)]
      refine ok_seq fun K18 h18 => ok_region rfl (q_fa _ fd34_1 rfl rfl (by decide) (q_ld _ ag32 rfl rfl (q_mv _ rfl (q_ia el32 rfl rfl (by omega) (mget hi) (q_ld _ ag63 rfl rfl (q_callr (f124_t d hsd) cl124 rfl (fun r1 hr1 hz1 ha1 => ?_)))))))
      refine q_as _ rfl (run_nil (h18 _ ?_))
      rw [e]
      exact ok_ret ⟨_, ⟨_, _, rfl, rfl, rfl⟩, hr1, hz1⟩
    · have e : repR c i d = repG c i d := by
        unfold repR
        rw [if_pos (by simpa using c18)]
      refine ok_skip (h16 _ ?_)
      refine ok_seq fun K20 h20 => ok_region rfl (q_mv _ rfl (q_as _ rfl (run_nil (h20 _ ?_))))
      rw [e]
      exact ok_ret ⟨_, ⟨_, _, rfl, rfl, rfl⟩, .tr _ _ _ _, hz2⟩
end Go.Ring

/- A cluster repaired: the reference and the program. No condition beyond the sizes. -/
set_option maxRecDepth 100000
set_option linter.unusedVariables false
set_option linter.unusedSimpArgs false
namespace Go.Ring
open Go Go.RowKit Go.Eager Go.Abs Go.Proofs
theorem bz34z : BLz Tryz.prog 34 [] [.int .i64 0, .slice none 0 0, .slice none 0 0] := by
  intro vs hv
  match vs, hv with
  | [], hv =>
    have key : Tryz.prog.built 34 [] = some #[.int .i64 0, .slice none 0 0, .slice none 0 0] := by kernel_rfl
    exact key
end Go.Ring

/- A cluster's own copy where there are no nodes: more exactly. No condition beyond the sizes. -/
set_option maxRecDepth 100000
set_option linter.unusedVariables false
set_option linter.unusedSimpArgs false
namespace Go.Ring
open Go Go.RowKit Go.Eager Go.Abs Go.Proofs
theorem le_emp {Γ : Ctx} {t : List (Nat × LV)} {h : List (Nat × Ent)} {a : Option Addr} {c : Nat} (n k : Nat) (hk : t.lookup k = some (.sv (.raw (.slice a 0 c)))) : Le Γ ⟨(k, .sv (.sl n [])) :: t, h⟩ ⟨t, h⟩ := by
  rintro a' w ⟨ρ, I⟩
  refine ⟨ρ, I.dfr, I.size, I.frm, fun t' lv hl => ?_, I.ent, I.new, I.sep, I.out, I.inn⟩
  rw [List.lookup_cons] at hl
  cases hq : (t' == k) with
  | true =>
    simp only [hq, Option.some.injEq] at hl
    subst hl
    have e : t' = k := by simpa using hq
    subst e
    have h1 : a'.tmps.getD t' undef = .slice a 0 c := rep_raw' (I.tmp t' _ hk)
    show Rep w _ _ _
    rw [h1]
    exact .nil n a c
  | false => simp only [hq] at hl; exact I.tmp t' lv hl
theorem f132_e : PFnR Tryz.prog 132 [eRingNodeS []] (fun r => ∃ a, Hd0 a ∧ r = .raw (.slice a 0 0)) := by
  refine fnp_ok (n := 8) Tryz.func132 rfl rfl rfl (Nat.le_of_ble_eq_true rfl) rfl fun w0 O => ?_
  refine ok_seq fun K1 h1 => ok_region rfl (q_as _ rfl (run_nil (h1 _ ?_)))
  refine ok_seq fun K2 h2 => ?_
  refine ok_seq fun K3 h3 => ok_region rfl (q_mv _ rfl (q_eqn Tryz.underlying29 rfl (fun b hb => run_nil (h3 _ ?_))))
  refine ok_cond rfl (fun c4 => ?_) (fun c4 => ?_)
  · refine ok_seq fun K5 h5 => ?_
    refine ok_region rfl (q_as _ rfl (run_nil (h5 _ ?_)))
    exact ok_ret ⟨_, ⟨_, _, rfl, rfl, rfl⟩, ⟨none, .inl rfl, rfl⟩, fun b hb => (zn_raw hb).elim⟩
  · refine ok_skip (h2 _ ?_)
    refine ok_seq fun K6 h6 => ok_region rfl (q_lit0e el29 fun b => q_mv _ rfl (q_appEr el29 rfl rfl (q_as _ rfl (run_nil (h6 _ ?_)))))
    exact ok_ret ⟨_, ⟨_, _, rfl, rfl, rfl⟩, ⟨_, .inr ⟨_, rfl⟩, rfl⟩, fun b hb => (zn_raw hb).elim⟩
theorem f57_e (c : Cluster) (hn : c.ring.nodes = []) (hd : c.data = []) : PFnR Tryz.prog 57 [eCluster c] (fun r => ∃ a, Hd0 a ∧ r = .agg [int c.ring.copies, .raw (.slice a 0 0), .raw (.slice none 0 0)]) := by
  obtain ⟨⟨cp, ns⟩, ds⟩ := c
  simp only at hn hd
  subst hn hd
  refine fnp_ok (n := 51) Tryz.func57 rfl rfl rfl (Nat.le_of_ble_eq_true rfl) rfl fun w0 O => ?_
  refine ok_seq fun K1 h1 => ok_region rfl (q_boxo (cells := [.sv (int cp), .sv (eRingNodeS []), .sv (eSeriesSS [])]) _ rfl (.inl ⟨_, rfl⟩) rfl rfl rfl (q_alloc _ ze34 rfl rfl rfl rfl (run_nil (h1 _ ?_))))
  refine ok_seq fun K2 h2 => ok_region rfl (q_fap fd34_0 rfl (by decide) (q_fap fd31_1 rfl (by decide) (q_ldb (.sv (eRingNodeS [])) ag29 rfl rfl rfl (q_callr f132_e cl132 rfl (fun r hr hz ha => ?_)))))
  obtain ⟨a, ha0, rfl⟩ := hr
  refine q_fap fd34_0 rfl (by decide) (q_fap fd31_1 rfl (by decide) (q_st _ sz29 rfl rfl (Nat.le_of_ble_eq_true rfl) rfl ⟨_, rfl, rfl⟩ rfl (run_nil (h2 _ ?_))))
  refine ok_seq fun K3 h3 => ?_
  refine ok_seq fun K4 h4 => ok_region rfl (q_fap fd34_0 rfl (by decide) (q_fap fd31_1 rfl (by decide) (q_ldb (.sv (.raw (.slice a 0 0))) ag29 rfl rfl rfl (run_le (le_emp 3 15 rfl) (q_len eS29 rfl (q_mv _ rfl (run_nil (h4 _ ?_))))))))
  refine ok_block ?_
  refine ok_loop (fun (k : Nat) => ⟨[(1, .ptr 1 0), (2, .ptr 2 0), (16, .sv (int ((0 : Nat) : Int))), (17, .sv (int 0))], [(1, .box [.sv (int cp), .sv (.raw (.slice a 0 0)), .sv (eSeriesSS [])]), (2, .box [.sv (int 0), .sv (.raw (.slice none 0 0)), .sv (.raw (.slice none 0 0))])]⟩) (fun k => True) (fun k => k) 0 trivial (le_sub ⟨rfl, rfl, rfl, rfl, trivial⟩ ⟨rfl, rfl, trivial⟩) (fun k J => ?_)
  refine ok_seq fun K5 h5 => ok_region rfl (q_bin _ _ _ rfl rfl rfl (run_nil (h5 _ ?_)))
  refine ok_seq fun K6 h6 => ?_
  refine ok_cond rfl (fun c7 => ?_) (fun c7 => ?_)
  · exact absurd c7 (by simp)
  · refine ok_exit (h3 _ ?_)
    refine ok_seq fun K12 h12 => ok_region rfl (q_as _ rfl (run_nil (h12 _ ?_)))
    refine ok_seq fun K13 h13 => ?_
    refine ok_seq fun K14 h14 => ok_region rfl (q_fap fd34_1 rfl (by decide) (q_ldb (.sv (eSeriesSS [])) ag32 rfl rfl rfl (q_len eS32 rfl (q_mv _ rfl (run_nil (h14 _ ?_))))))
    refine ok_block ?_
    refine ok_loop (fun (k : Nat) => ⟨[(1, .ptr 1 0), (2, .ptr 2 0), (4, .sv (.raw (.slice none 0 0))), (37, .sv (int ((0 : Nat) : Int))), (38, .sv (int 0))], [(1, .box [.sv (int cp), .sv (.raw (.slice a 0 0)), .sv (eSeriesSS [])]), (2, .box [.sv (int 0), .sv (.raw (.slice none 0 0)), .sv (.raw (.slice none 0 0))])]⟩) (fun k => True) (fun k => k) 0 trivial (le_sub ⟨rfl, rfl, rfl, rfl, rfl, trivial⟩ ⟨rfl, rfl, trivial⟩) (fun k J => ?_)
    refine ok_seq fun K15 h15 => ok_region rfl (q_bin _ _ _ rfl rfl rfl (run_nil (h15 _ ?_)))
    refine ok_seq fun K16 h16 => ?_
    refine ok_cond rfl (fun c17 => ?_) (fun c17 => ?_)
    · exact absurd c17 (by simp)
    · refine ok_exit (h13 _ ?_)
      refine ok_seq fun K22 h22 => ok_region rfl (q_mv _ rfl (q_fap fd34_1 rfl (by decide) (q_st _ sz32 rfl rfl (Nat.le_of_ble_eq_true rfl) rfl ⟨_, rfl, rfl⟩ rfl (run_nil (h22 _ ?_)))))
      refine ok_seq fun K23 h23 => ok_region rfl (q_ldbs ag34 rfl rfl sz34 rfl rfl (q_sts _ rfl rfl rfl sz34 (Nat.le_of_ble_eq_true rfl) rfl (run_nil (h23 _ ?_))))
      refine ok_ret ⟨[.agg [int cp, .raw (.slice a 0 0), .raw (.slice none 0 0)]], ⟨_, _, res_cells (l := [int cp, .raw (.slice a 0 0), .raw (.slice none 0 0)]) rfl rfl ag34 sz34 rfl, rfl, rfl⟩, ⟨a, ha0, rfl⟩, fun b hb => ?_⟩
      have hb : Zn b (.agg [int cp, .raw (.slice a 0 0), .raw (.slice none 0 0)]) := hb
      simp only [znA_cons, znI_raw, znI_tr, znA_nil, or_false, false_or] at hb
theorem f52_e (c : Cluster) (hn : c.ring.nodes = []) (hd : c.data = []) : PFnR Tryz.prog 52 [eCluster c] (fun r => r = .agg [int c.ring.copies, .raw (.slice none 0 0), .raw (.slice none 0 0)]) := by
  obtain ⟨⟨cp, ns⟩, ds⟩ := c
  simp only at hn hd
  subst hn hd
  refine fnp_ok (n := 47) Tryz.func52 rfl rfl rfl (Nat.le_of_ble_eq_true rfl) rfl fun w0 O => ?_
  refine ok_seq fun K1 h1 => ok_region rfl (q_boxs _ rfl (Nat.zero_lt_succ _) (q_alloc _ ze34 rfl rfl rfl rfl (run_nil (h1 _ ?_))))
  refine ok_seq fun K2 h2 => ok_region rfl (q_fas fd34_0 rfl (by decide) (Nat.le_of_ble_eq_true rfl) rfl (q_fa _ fd31_0 rfl rfl (by decide) (q_ld (int cp) ag3 rfl rfl (q_bldr [(0, .int .i64 cp)] [.int .i64 cp, .slice none 0 0] rfl (built31 _) rfl (q_bld1a [.int .i64 cp, .slice none 0 0] [.int .i64 cp, .slice none 0 0, .slice none 0 0] rfl (built34 _) rfl (q_alloc _ ze34 rfl rfl rfl rfl (q_sts _ rfl rfl rfl sz34 (Nat.le_of_ble_eq_true rfl) rfl (run_nil (h2 _ ?_)))))))))
  refine ok_seq fun K3 h3 => ?_
  refine ok_seq fun K4 h4 => ok_region rfl (q_fas fd34_0 rfl (by decide) (Nat.le_of_ble_eq_true rfl) rfl (q_fa _ fd31_1 rfl rfl (by decide) (q_ld _ ag29 rfl rfl (q_len eS29 rfl (q_mv _ rfl (run_nil (h4 _ ?_)))))))
  refine ok_block ?_
  refine ok_loop (fun (k : Nat) => ⟨[(1, .sv (.ptr (eCluster ⟨⟨cp, []⟩, []⟩))), (2, .ptr 2 0), (3, .ptr 3 0), (16, .sv (int ((0 : Nat) : Int))), (17, .sv (int 0))], [(3, .box [.sv (int cp), .sv (.raw (.slice none 0 0)), .sv (.raw (.slice none 0 0))]), (2, .box [.sv (int 0), .sv (.raw (.slice none 0 0)), .sv (.raw (.slice none 0 0))])]⟩) (fun k => True) (fun k => k) 0 trivial (le_sub ⟨rfl, rfl, rfl, rfl, rfl, trivial⟩ ⟨rfl, rfl, trivial⟩) (fun k J => ?_)
  refine ok_seq fun K5 h5 => ok_region rfl (q_bin _ _ _ rfl rfl rfl (run_nil (h5 _ ?_)))
  refine ok_seq fun K6 h6 => ?_
  refine ok_cond rfl (fun c7 => ?_) (fun c7 => ?_)
  · exact absurd c7 (by simp)
  · refine ok_exit (h3 _ ?_)
    refine ok_seq fun K13 h13 => ?_
    refine ok_seq fun K14 h14 => ok_region rfl (q_fa _ fd34_1 rfl rfl (by decide) (q_ld _ ag32 rfl rfl (q_len eS32 rfl (q_mv _ rfl (run_nil (h14 _ ?_))))))
    refine ok_block ?_
    refine ok_loop (fun (k : Nat) => ⟨[(2, .ptr 2 0), (3, .ptr 3 0), (33, .sv (int ((0 : Nat) : Int))), (34, .sv (int 0))], [(3, .box [.sv (int cp), .sv (.raw (.slice none 0 0)), .sv (.raw (.slice none 0 0))]), (2, .box [.sv (int 0), .sv (.raw (.slice none 0 0)), .sv (.raw (.slice none 0 0))])]⟩) (fun k => True) (fun k => k) 0 trivial (le_sub ⟨rfl, rfl, rfl, rfl, trivial⟩ ⟨rfl, rfl, trivial⟩) (fun k J => ?_)
    refine ok_seq fun K15 h15 => ok_region rfl (q_bin _ _ _ rfl rfl rfl (run_nil (h15 _ ?_)))
    refine ok_seq fun K16 h16 => ?_
    refine ok_cond rfl (fun c17 => ?_) (fun c17 => ?_)
    · exact absurd c17 (by simp)
    · refine ok_exit (h13 _ ?_)
      refine ok_seq fun K23 h23 => ok_region rfl (q_ldbs ag34 rfl rfl sz34 rfl rfl (q_sts _ rfl rfl rfl sz34 (Nat.le_of_ble_eq_true rfl) rfl (run_nil (h23 _ ?_))))
      refine ok_ret ⟨[.agg [int cp, .raw (.slice none 0 0), .raw (.slice none 0 0)]], ⟨_, _, res_cells (l := [int cp, .raw (.slice none 0 0), .raw (.slice none 0 0)]) rfl rfl ag34 sz34 rfl, rfl, rfl⟩, rfl, fun b hb => ?_⟩
      have hb : Zn b (.agg [int cp, .raw (.slice none 0 0), .raw (.slice none 0 0)]) := hb
      simp only [znA_cons, znI_raw, znI_tr, znA_nil, or_false, false_or] at hb
end Go.Ring

/- A node joined to a cluster: plain. No condition beyond the sizes. -/
set_option maxRecDepth 100000
set_option linter.unusedVariables false
set_option linter.unusedSimpArgs false
namespace Go.Ring
open Go Go.RowKit Go.Eager Go.Abs Go.Proofs
theorem insE74 : InsE Tryz.prog 74 3 48 := insE_of insL74 (by omega) (by omega)
theorem insE75 : InsE Tryz.prog 75 1 24 := insE_of insL75 (by omega) (by omega)
def jnC (c : Cluster) (n : RingNode) : Cluster := ⟨⟨c.ring.copies, Go.Abs.insAt c.ring.nodes (lowN n.id c.ring.nodes) n⟩, Go.Abs.insAt c.data (lowN n.id c.ring.nodes) []⟩
noncomputable def resJ (c : Cluster) (n : RingNode) : Cluster :=
  if pB (ClusterOk c) = true ∧ n.st = 1 ∧ pB (GoodR (jnC c n).ring) = true then ⟨(jnC c n).ring, (jnC c n).data.set (lowN n.id c.ring.nodes) (repR (jnC c n) (lowN n.id c.ring.nodes) [])⟩ else ⟨⟨0, []⟩, []⟩
theorem srtN_of {r : Ring} (hg : GoodR r) : SrtN r.nodes := by
  have key : ∀ (j i : Nat) (x y : RingNode), i < j → r.nodes[i]? = some x → r.nodes[j]? = some y → ltN x.id y.id := by
    intro j
    induction j with
    | zero => intro i x y h; omega
    | succ j ih =>
      intro i x y hij hx hy
      obtain ⟨q, hq⟩ := sget (l := r.nodes) (i := j) (by have := slt hy; omega)
      have h3 : ltN q.id y.id := (hg.2.2.2 (j + 1) y hy).2.1 q (by omega) hq
      rcases Nat.lt_or_ge i j with h | h
      · exact ltN_trans (ih i x q h hx hq) h3
      · obtain rfl : i = j := by omega
        rw [hx] at hq; cases hq; exact h3
  exact List.pairwise_iff_getElem.2 fun i j hi hj hij => key j i _ _ hij (List.getElem?_eq_getElem hi) (List.getElem?_eq_getElem hj)
theorem fnd_bad {c : Cluster} {n : RingNode} (h : fndN n.id c.ring.nodes = true) : ¬ GoodR (jnC c n).ring := fun hg => by
  unfold fndN at h
  have hp := lowN_le n.id c.ring.nodes
  cases hq : c.ring.nodes[lowN n.id c.ring.nodes]? with
  | none => rw [hq] at h; cases h
  | some x =>
    rw [hq] at h
    have h0 : cmpT x.id.data.toList n.id.data.toList = 0 := by simpa using h
    have hx : (jnC c n).ring.nodes[lowN n.id c.ring.nodes + 1]? = some x := by
      show (Go.Abs.insAt _ _ _)[_]? = _
      rw [insAt_get _ _ _ hp, if_neg (by omega), if_neg (by omega), Nat.add_sub_cancel]; exact hq
    have hn : (jnC c n).ring.nodes[lowN n.id c.ring.nodes + 1 - 1]? = some n := by
      show (Go.Abs.insAt _ _ _)[_]? = _
      rw [insAt_get _ _ _ hp, Nat.add_sub_cancel, if_neg (by omega), if_pos rfl]
    have h1 := (hg.2.2.2 _ x hx).2.1 n (by omega) hn
    rw [(cmpT_zero _ _).1 h0, (cmpT_zero _ _).2 rfl] at h1
    omega
theorem insAt_mem {α : Type} {l : List α} {i : Nat} {x y : α} (h : y ∈ Go.Abs.insAt l i x) : y ∈ l ∨ y = x := by
  unfold Go.Abs.insAt at h
  rw [List.mem_append, List.mem_append] at h
  rcases h with (h | h) | h
  · exact .inl (List.mem_of_mem_take h)
  · simp at h; exact .inr h
  · exact .inl (List.mem_of_mem_drop h)
theorem ser_nil : SeriesOk [] := ⟨by simp, fun i x h => by simp at h⟩
theorem jn_len2 {c : Cluster} {n : RingNode} (hk : ClusterOk c) : lowN n.id c.ring.nodes ≤ c.data.length := by rw [hk.2.1]; exact lowN_le _ _
theorem jnC_ok {c : Cluster} {n : RingNode} (hk : ClusterOk c) : ClusterOk (jnC c n) ↔ GoodR (jnC c n).ring := by
  refine ⟨fun h => h.1, fun h => ⟨h, ?_, fun i x hx => ?_⟩⟩
  · show (Go.Abs.insAt _ _ _).length = (Go.Abs.insAt _ _ _).length
    rw [insAt_len _ _ _ (jn_len2 hk), insAt_len _ _ _ (lowN_le _ _), hk.2.1]
  · rcases insAt_mem (smem hx) with h | rfl
    · exact (dat_ok hk).2 x h
    · exact ser_nil
theorem jnC_S {c : Cluster} {n : RingNode} (hc : SCluster c) (hk : ClusterOk c) (hn : SRingNode n) : SCluster (jnC c n) := by
  have h1 := (dat_ok hk).1
  have h2 := hk.1.2.2.1
  refine ⟨⟨?_, fun y hy => ?_⟩, ?_, fun y hy => ?_⟩
  · show (Go.Abs.insAt _ _ _).length ≤ _; rw [insAt_len _ _ _ (lowN_le _ _)]; omega
  · rcases insAt_mem hy with h | rfl
    · exact hc.1.2 y h
    · exact hn
  · show (Go.Abs.insAt _ _ _).length ≤ _; rw [insAt_len _ _ _ (jn_len2 hk)]; omega
  · rcases insAt_mem hy with h | rfl
    · exact hc.2.2 y h
    · exact ⟨by simp, fun z hz => by simp at hz⟩
theorem sumF_take_drop {α : Type} (f : α → Nat) (l : List α) (i : Nat) : sumF f (l.take i) + sumF f (l.drop i) = sumF f l := by rw [← sumF_app, List.take_append_drop]
theorem jnC_D {c : Cluster} {n : RingNode} (hd : DatOk c.data) : DatOk (jnC c n).data := by
  refine ⟨fun d h => ?_, ?_, fun d h => ?_⟩
  · rcases insAt_mem h with h | rfl
    · exact hd.n d h
    · exact nice_nil
  · show sumF wt (Go.Abs.insAt _ _ _) ≤ _
    unfold Go.Abs.insAt
    rw [sumF_app, sumF_app]
    have h1 := sumF_take_drop wt c.data (lowN n.id c.ring.nodes)
    have h2 := hd.w
    simp only [sumF, wt]
    omega
  · rcases insAt_mem h with h | rfl
    · exact hd.l d h
    · intro s hs; simp at hs
theorem jnC_at {c : Cluster} {n : RingNode} (hk : ClusterOk c) : (jnC c n).data[lowN n.id c.ring.nodes]? = some [] := by
  show (Go.Abs.insAt _ _ _)[_]? = _
  rw [insAt_get _ _ _ (jn_len2 hk), if_neg (by omega), if_pos rfl]
end Go.Ring
