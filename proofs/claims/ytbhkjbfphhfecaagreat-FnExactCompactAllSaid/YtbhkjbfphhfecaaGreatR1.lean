/- The library's slices.Replace of some blocks by one: this program's own. No condition. -/
import Derived.Test.YtbhkjbfphhfecaaGreatF1
import Derived.Test.YtbhkjbfphhfecaaGreatEg3
import Derived.KernelRfl
import Derived.Deep.QuietTactic
import Derived.BigQuiet
set_option maxRecDepth 100000
set_option linter.unusedVariables false
set_option linter.unusedSimpArgs false
namespace Go.Ring
open Go Go.RowKit Go.Eager Go.Abs Go.Proofs Go.Lib
theorem rep_ntmps : Tryz.f102.ntmps = 224 := by kernel_rfl
theorem rep_mixed : Tryz.prog.follows .mixedOrders = true := by kernel_rfl
theorem rep_info : (Tryz.prog.info? 34).map (fun i => (i.zero, i.size, i.bytes)) = some (some (.agg #[.int .i64 0, .int .i64 0, .int .i64 0, .slice none 0 0, .slice none 0 0]), 5, 72) := by kernel_rfl
/-- Cells cleared. -/
theorem run_clear_row {P : Program} (w : World) (t e : TypeId) (z : Value) (i : TypeInfo) (ht : P.underlying t = some (.slice e)) (hi : P.info? e = some i) (hz : i.zero = some z) (s : Nat) (hs : z.cells.size = s) (h1 : ∀ v ∈ z.cells.toList, v.oneCell' = true) (b o n c : Nat) (cur : Array Value) (T : TypeId)
    (hg : w.heap[b]? = some (.cells cur T (0, 0))) (hfit : o + n * s ≤ cur.size) (hn : 0 < n) :
    (Builtin.zeroCells z.cells n).toList.length = n * s ∧ ∀ ty, (Builtin.clear_ #[t] ty #[.slice (some ⟨b, o, none⟩) n c]).run P w = .ok (.tuple #[]) (w.setRow b (cur.toList.take o ++ (Builtin.zeroCells z.cells n).toList ++ cur.toList.drop (o + (Builtin.zeroCells z.cells n).toList.length)).toArray) := by
  have hl : (Builtin.zeroCells z.cells n).toList.length = n * s := by rw [Array.length_toList, size_zeroCells, hs]
  have hone : ∀ v ∈ (Builtin.zeroCells z.cells n).toList, v.oneCell' = true := by
    intro v hv
    unfold Builtin.zeroCells at hv
    simp only [Array.toList_map, List.mem_map, Array.mem_toList_iff, Array.mem_range] at hv
    obtain ⟨q, hq, rfl⟩ := hv
    have hs0 : 0 < z.cells.size := by
      rcases Nat.eq_zero_or_pos z.cells.size with h | h
      · rw [h] at hq; omega
      · exact h
    have hm := Nat.mod_lt q hs0
    rw [getElem!_pos z.cells _ hm]
    exact h1 _ (by simp)
  have hst := run_storeCells_at P b o T (Builtin.zeroCells z.cells n).toList 0 cur w hg (by rw [hl]; omega) hone
  refine ⟨hl, fun ty => ?_⟩
  cases n with
  | zero => omega
  | succ n =>
    simp only [Nat.add_zero] at hst
    simp [Builtin.clear_, run_underlying ht, zeroValue, typeInfo, hi, hz, hst]
theorem run_clear_none {P : Program} (w : World) (t e : TypeId) (i : TypeInfo) (z : Value) (ht : P.underlying t = some (.slice e)) (hi : P.info? e = some i) (hz : i.zero = some z) (a : Option Addr) (c : Nat) (ty : TypeId) :
    (Builtin.clear_ #[t] ty #[.slice a 0 c]).run P w = .ok (.tuple #[]) w := by
  cases a <;> simp [Builtin.clear_, run_underlying ht]
theorem wpList_clear_run {P : Program} (w : World) {ops : Array Oper} {rest : List Oper} {o : Oper} {a : Act} {Q : Exit → Act → World → Prop} (hgd : o.guard = none) (x : Operand) (t : TypeId)
    (ho : o.op = .call { callee := .builtin .clear, args := #[x], argTypes := #[t] }) (v : Value) (hx : a.eval x = v) {v' : Value} {w' : World}
    (hr : (Builtin.clear_ #[t] o.type #[v]).run P w = .ok v' w') (h : wpList P ops Q rest (a.put o.dst v') w') : wpList P ops Q (o :: rest) a w :=
  wpList_plain hgd fun _ hK => by
    unfold Oper.wp
    simp [execOp, ho, resolve, invoke, builtin, hx, hr, Result.andThen]
    exact hK _ _ h
/-- An append into the room of a row. -/
theorem run_append_roomT {P : Program} (w : World) (t ty e : TypeId) (T : TypeId) (i : TypeInfo) (ht : P.underlying t = some (.slice e)) (hi : P.info? e = some i)
    (g n cap : Nat) (cur : Array Value) (hg : w.heap[g]? = some (.cells cur T (0, 0))) (a : Addr) (m c : Nat) (news : List Value) (hl : news.length = m * i.size) (hnews : ∀ j u, news[j]? = some u → w.cell? (a.add j) = some u) (h1 : ∀ u ∈ news, u.oneCell' = true)
    (hroom : n + m ≤ cap) (hfit : n * i.size + news.length ≤ cur.size) :
    (Builtin.append_ #[t, t] ty #[.slice (some ⟨g, 0, none⟩) n cap, .slice (some a) m c]).run P w = .ok (.slice (some ⟨g, 0, none⟩) (n + m) cap) (w.setRow g (cur.toList.take (n * i.size) ++ news ++ cur.toList.drop (n * i.size + news.length)).toArray) := by
  have hf := run_firstCells_some (P := P) w i.size m a m c news hl hnews
  have hst := run_storeCells_at P g (n * i.size) T news 0 cur w hg (by simpa using hfit) h1
  simp only [Nat.add_zero] at hst
  simp [Builtin.append_, run_underlying ht, sizeOf, typeInfo, hi, Builtin.lenOf, hroom, hf, Addr.add_lit, hst]
set_option maxHeartbeats 4000000 in
/-- Some at the end. -/
theorem rep_end (b n c i vb vc T Tv : Nat) (cur cv : Array Value) (cs vs : List Value) (w : World) (hin : i < n) (hnc : n ≤ c) (hc63 : c ≤ 9223372036854775807) (hvb : vb ≠ b)
    (hg : w.heap[b]? = some (.cells cur T (0, 0))) (hcs : cur.size = c * 5) (hcl : cs.length = n * 5) (htk : cur.toList.take (n * 5) = cs) (hgv : w.heap[vb]? = some (.cells cv Tv (0, 0))) (hvt : cv.toList.take 5 = vs) (hvl : vs.length = 5)
    (h1v : ∀ v ∈ vs, v.oneCell' = true) :
    Calls Tryz.prog 102 #[.slice (some ⟨b, 0, none⟩) n c, .int .i64 i, .int .i64 n, .slice (some ⟨vb, 0, none⟩) 1 vc] w fun e w' =>
      e = .returned (.slice (some ⟨b, 0, none⟩) (i + 1) c) ∧ w.grownBy w' (some b) ∧ ∃ cur' : Array Value, w'.heap[b]? = some (.cells cur' T (0, 0)) ∧ cur'.size = cur.size ∧ cur'.toList.take ((i + 1) * 5) = cs.take (i * 5) ++ vs := by
  have u3 := run_underlying Tryz.underlying3; have u4 := run_underlying Tryz.underlying4; have u53 := run_underlying Tryz.underlying53
  have a3 := Tryz.isAgg3; have a4 := Tryz.isAgg4; have a53 := Tryz.isAgg53; have z34 := Tryz.sizeOf34
  have mixed := rep_mixed
  obtain ⟨i0, hi0, hz0, hzs, hzb⟩ := info_parts rep_info
  have hcvc : ∀ j v, vs[j]? = some v → cv[j]? = some v := fun j v hj => by
    have hlt := (List.getElem?_eq_some_iff.1 hj).1
    rw [← hvt, List.getElem?_take, if_pos (by omega), Array.getElem?_toList] at hj
    exact hj
  have hlen : cur.toList.length = c * 5 := by rw [Array.length_toList]; exact hcs
  obtain ⟨cur1, hcur1⟩ : ∃ cur1 : Array Value, cur1.toList = cur.toList.take (i * 5) ++ vs ++ cur.toList.drop (i * 5 + vs.length) := ⟨(cur.toList.take (i * 5) ++ vs ++ cur.toList.drop (i * 5 + vs.length)).toArray, by simp⟩
  have hap : ∀ ty, (Builtin.append_ #[53, 53] ty #[.slice (some ⟨b, 0, none⟩) i c, .slice (some ⟨vb, 0, none⟩) 1 vc]).run Tryz.prog w = .ok (.slice (some ⟨b, 0, none⟩) (i + 1) c) (w.setRow b cur1) := fun ty => by
    have h := run_append_roomT (P := Tryz.prog) w 53 ty 34 T i0 Tryz.underlying53 hi0 b i c cur hg ⟨vb, 0, none⟩ 1 vc vs (by rw [hzs, hvl]) (fun j v hj => by rw [addr_add, cell_cells hgv, Nat.zero_add]; exact hcvc j v hj) h1v (by omega) (by rw [hzs, hvl, hcs]; omega)
    rw [hzs] at h
    rw [h, ← hcur1]
  have hl1 : (cur.toList.take (i * 5)).length = i * 5 := by rw [List.length_take]; omega
  have hsz1 : cur1.size = cur.size := by rw [← Array.length_toList, hcur1]; simp only [List.length_append, List.length_drop, hl1, hvl, hlen, hcs]; omega
  have hg1 : (w.setRow b cur1).heap[b]? = some (.cells cur1 T (0, 0)) := setRow_heap w b cur cur1 T _ hg
  have q1 : cur1.toList.take ((i + 1) * 5) = cs.take (i * 5) ++ vs := by
    rw [hcur1, List.take_left' (by rw [List.length_append, hl1, hvl]; omega), ← htk, List.take_take]
    congr 2; omega
  have hbw : b < w.heap.size := (Array.getElem?_eq_some_iff.1 hg).1
  have hne : ¬ ((i : Int) = (n : Int)) := by omega
  have hgr : ∀ cur', w.grownBy (w.setRow b cur') (some b) := fun cur' => ⟨rfl, rfl, rfl, by simp [World.setRow], fun k _ hk => setRow_other w b k _ (fun e => hk (by rw [e]))⟩
  by_cases hlt : i + 1 < n
  · obtain ⟨hzl, hcl⟩ := run_clear_row (P := Tryz.prog) (w.setRow b cur1) 53 34 _ i0 Tryz.underlying53 hi0 hz0 5 rfl (by decide) b ((i + 1) * 5) (n - (i + 1)) (c - (i + 1)) cur1 T hg1 (by rw [hsz1, hcs]; omega) (by omega)
    generalize (Builtin.zeroCells (Value.agg #[.int .i64 0, .int .i64 0, .int .i64 0, .slice none 0 0, .slice none 0 0]).cells (n - (i + 1))).toList = zs at hzl hcl
    have hl2 : (cur1.toList.take ((i + 1) * 5)).length = (i + 1) * 5 := by rw [List.length_take, Array.length_toList, hsz1, hcs]; omega
    have s2 : (cur1.toList.take ((i + 1) * 5) ++ zs ++ cur1.toList.drop ((i + 1) * 5 + zs.length)).toArray.size = cur.size := by
      simp only [List.size_toArray, List.length_append, hl2, List.length_drop, Array.length_toList, hsz1, hcs, hzl]
      omega
    have s3 : (cur1.toList.take ((i + 1) * 5) ++ zs ++ cur1.toList.drop ((i + 1) * 5 + zs.length)).toArray.toList.take ((i + 1) * 5) = cs.take (i * 5) ++ vs := by
      rw [List.toList_toArray, List.append_assoc, List.take_left' hl2, q1]
    generalize (cur1.toList.take ((i + 1) * 5) ++ zs ++ cur1.toList.drop ((i + 1) * 5 + zs.length)).toArray = cur2 at hcl s2 s3
    rw [setRow_setRow] at hcl
    clear hcur1
    have hlt' : ((i : Int) + 1) < (n : Int) := by omega
    have hci : ¬ (c = i + 1) := by omega
    go_enter Tryz.func102, rep_ntmps
    go_wp2_with (first
      | (at_builtin; refine Lib.wpList_append_run _ rfl _ _ _ _ rfl _ _ rfl rfl _ _ (hap _) ?_)
      | (at_builtin; refine wpList_clear_run _ rfl _ _ rfl _ rfl (hcl _) ?_))
    go_ret
    exact ⟨rfl, hgr _, cur2, setRow_heap w b cur _ T _ hg, (by first | exact s2 | exact s2.trans hcs), s3⟩
  · have hn : n = i + 1 := by omega
    subst hn
    have hlt' : ¬ (((i : Int) + 1) < ((i + 1 : Nat) : Int)) := by omega
    go_enter Tryz.func102, rep_ntmps
    go_wp2_with (at_builtin; refine Lib.wpList_append_run _ rfl _ _ _ _ rfl _ _ rfl rfl _ _ (hap _) ?_)
    go_ret
    exact ⟨rfl, hgr cur1, cur1, hg1, (by first | exact hsz1 | exact hsz1.trans hcs), q1⟩
set_option maxHeartbeats 4000000 in
/-- Some in the midst. -/
theorem rep_mid (b n c i j vb vc T Tv : Nat) (cur cv : Array Value) (cs vs : List Value) (w : World) (hij : i < j) (hj : j < n) (hnc : n ≤ c) (hc63 : c ≤ 9223372036854775807) (hvb : vb ≠ b)
    (hg : w.heap[b]? = some (.cells cur T (0, 0))) (hcs : cur.size = c * 5) (hcl : cs.length = n * 5) (htk : cur.toList.take (n * 5) = cs) (hgv : w.heap[vb]? = some (.cells cv Tv (0, 0))) (hvt : cv.toList.take 5 = vs) (hvl : vs.length = 5)
    (h1c : ∀ v ∈ cs, v.oneCell' = true) (h1v : ∀ v ∈ vs, v.oneCell' = true) :
    Calls Tryz.prog 102 #[.slice (some ⟨b, 0, none⟩) n c, .int .i64 i, .int .i64 j, .slice (some ⟨vb, 0, none⟩) 1 vc] w fun e w' =>
      e = .returned (.slice (some ⟨b, 0, none⟩) (i + 1 + (n - j)) c) ∧ w.grownBy w' (some b) ∧ ∃ cur' : Array Value, w'.heap[b]? = some (.cells cur' T (0, 0)) ∧ cur'.size = c * 5 ∧ cur'.toList.take ((i + 1 + (n - j)) * 5) = cs.take (i * 5) ++ vs ++ cs.drop (j * 5) := by
  have u3 := run_underlying Tryz.underlying3; have u4 := run_underlying Tryz.underlying4; have u53 := run_underlying Tryz.underlying53
  have a3 := Tryz.isAgg3; have a4 := Tryz.isAgg4; have a53 := Tryz.isAgg53; have z34 := Tryz.sizeOf34
  have mixed := rep_mixed
  obtain ⟨i0, hi0, hz0, hzs, hzb⟩ := info_parts rep_info
  have hsz : (Tryz.prog.info? 34).map (·.size) = some 5 := by rw [hi0]; simp [hzs]
  have hcvc : ∀ j v, vs[j]? = some v → cv[j]? = some v := fun j v hj => by
    have hlt := (List.getElem?_eq_some_iff.1 hj).1
    rw [← hvt, List.getElem?_take, if_pos (by omega), Array.getElem?_toList] at hj
    exact hj
  have hcurc : ∀ k v, cs[k]? = some v → cur[k]? = some v := fun k v hk => by
    have hlt := (List.getElem?_eq_some_iff.1 hk).1
    rw [← htk, List.getElem?_take, if_pos (by omega), Array.getElem?_toList] at hk
    exact hk
  obtain ⟨tot, htot⟩ : ∃ tot, tot = i + 1 + (n - j) := ⟨_, rfl⟩
  have htn : tot ≤ n := by omega
  have hlen : cur.toList.length = c * 5 := by rw [Array.length_toList]; exact hcs
  have hl1 : (cur.toList.take (i * 5)).length = i * 5 := by rw [List.length_take]; omega
  obtain ⟨cur1, hcur1⟩ : ∃ cur1 : Array Value, cur1.toList = cur.toList.take (i * 5) ++ vs ++ cur.toList.drop (i * 5 + vs.length) := ⟨(cur.toList.take (i * 5) ++ vs ++ cur.toList.drop (i * 5 + vs.length)).toArray, by simp⟩
  have hsz1 : cur1.size = c * 5 := by rw [← Array.length_toList, hcur1]; simp only [List.length_append, List.length_drop, hl1, hvl, hlen]; omega
  have hgd : ∀ q, (w.drewN q).heap[b]? = some (.cells cur T (0, 0)) := fun _ => hg
  have hgvd : ∀ q, (w.drewN q).heap[vb]? = some (.cells cv Tv (0, 0)) := fun _ => hgv
  have hmin1 : Nat.min 1 (tot - i) = 1 := by simp only [Nat.min_def]; split <;> omega
  have hmin2 : Nat.min (n - j) (n - j) = n - j := Nat.min_self _
  have hfa : (i : Int) + 1 ≤ (i : Int) + 1 + ((n - j : Nat) : Int) := by omega
  have hcp1 : ∀ q ty dc, (Builtin.copy_ #[53, 53] ty #[.slice (some ⟨b, i * 5, none⟩) (tot - i) dc, .slice (some ⟨vb, 0, none⟩) 1 vc]).run Tryz.prog (w.drewN q) = .ok (goInt (1 : Nat)) ((w.drewN q).setRow b cur1) := fun q ty dc => by
    have h := run_copy_rowN (P := Tryz.prog) (w.drewN q) 53 53 ty 34 b (i * 5) (tot - i) dc 5 ⟨vb, 0, none⟩ 1 vc cur T vs Tryz.underlying53 hsz (hgd q) (by rw [hmin1, Nat.one_mul]; exact hvl)
      (fun k v hk => by rw [addr_add, cell_cells (hgvd q), Nat.zero_add]; exact hcvc k v hk) (by rw [hvl, hcs]; omega) h1v
    rw [hmin1] at h
    rw [h, ← hcur1]
  have hg1 : ∀ q, ((w.drewN q).setRow b cur1).heap[b]? = some (.cells cur1 T (0, 0)) := fun q => setRow_heap (w.drewN q) b cur cur1 T _ (hgd q)
  have hdl : (cs.drop (j * 5)).length = (n - j) * 5 := by rw [List.length_drop, hcl]; omega
  obtain ⟨cur2, hcur2⟩ : ∃ cur2 : Array Value, cur2.toList = cur1.toList.take ((i + 1) * 5) ++ cs.drop (j * 5) ++ cur1.toList.drop ((i + 1) * 5 + (cs.drop (j * 5)).length) := ⟨(cur1.toList.take ((i + 1) * 5) ++ cs.drop (j * 5) ++ cur1.toList.drop ((i + 1) * 5 + (cs.drop (j * 5)).length)).toArray, by simp⟩
  have hfar : ∀ k v, (cs.drop (j * 5))[k]? = some v → cur1[j * 5 + k]? = some v := fun k v hk => by
    rw [List.getElem?_drop] at hk
    have h1 := hcurc _ _ hk
    rw [← Array.getElem?_toList] at h1 ⊢
    rw [hcur1, List.getElem?_append_right (by rw [List.length_append, hl1, hvl]; omega), List.length_append, hl1, hvl, List.getElem?_drop, show i * 5 + 5 + (j * 5 + k - (i * 5 + 5)) = j * 5 + k by omega]
    exact h1
  have hcp2 : ∀ (q ty dc sc : Nat), (Builtin.copy_ #[53, 53] ty #[.slice (some ⟨b, (i + 1) * 5, none⟩) (n - j) dc, .slice (some ⟨b, j * 5, none⟩) (n - j) sc]).run Tryz.prog ((w.drewN q).setRow b cur1) = .ok (goInt (n - j : Nat)) ((w.drewN q).setRow b cur2) := fun q ty dc sc => by
    have h := run_copy_rowN (P := Tryz.prog) ((w.drewN q).setRow b cur1) 53 53 ty 34 b ((i + 1) * 5) (n - j) dc 5 ⟨b, j * 5, none⟩ (n - j) sc cur1 T (cs.drop (j * 5)) Tryz.underlying53 hsz (hg1 q) (by rw [hmin2]; exact hdl)
      (fun k v hk => by rw [addr_add, cell_cells (hg1 q)]; exact hfar k v hk) (by rw [hdl, hsz1]; omega) (fun v hv => h1c v (List.mem_of_mem_drop hv))
    rw [hmin2] at h
    rw [h, ← hcur2, setRow_setRow]
  have hcp2' : ∀ (q ty dc sc : Nat), (Builtin.copy_ #[53, 53] ty #[.slice (some ⟨b, (i + 1) * 5, none⟩) (n - j) dc, .slice (some ⟨b, j * 5, none⟩) (n - j) sc]).run Tryz.prog ((w.drewN q).setRow b cur1).drew = .ok (goInt (n - j : Nat)) ((w.drewN (q + 1)).setRow b cur2) := fun q ty dc sc => hcp2 (q + 1) ty dc sc
  have hl2 : (cur1.toList.take ((i + 1) * 5)).length = (i + 1) * 5 := by rw [List.length_take, Array.length_toList, hsz1]; omega
  have hsz2 : cur2.size = c * 5 := by rw [← Array.length_toList, hcur2]; simp only [List.length_append, List.length_drop, hl2, hdl, Array.length_toList, hsz1]; omega
  have hg2 : ∀ q, ((w.drewN q).setRow b cur2).heap[b]? = some (.cells cur2 T (0, 0)) := fun q => setRow_heap (w.drewN q) b cur cur2 T _ (hgd q)
  have q1 : cur1.toList.take ((i + 1) * 5) = cs.take (i * 5) ++ vs := by
    rw [hcur1, List.take_left' (by rw [List.length_append, hl1, hvl]; omega), ← htk, List.take_take]
    congr 2; omega
  have q2 : cur2.toList.take (tot * 5) = cs.take (i * 5) ++ vs ++ cs.drop (j * 5) := by
    rw [hcur2, List.take_left' (by rw [List.length_append, hl2, hdl]; omega), q1]
  have hbw : b < w.heap.size := (Array.getElem?_eq_some_iff.1 hg).1
  have hgr : ∀ q cur', w.grownBy ((w.drewN q).setRow b cur') (some b) := fun q cur' => ⟨rfl, rfl, rfl, Nat.le_of_eq (by simp [World.setRow, World.drewN]), fun k _ hk => setRow_other (w.drewN q) b k _ (fun e => hk (by rw [e]))⟩
  have hne1 : ¬ ((i : Int) = (j : Int)) := by omega
  have hne2 : ¬ ((j : Int) = (n : Int)) := by omega
  have hw1 : IntKind.i64.wrap ((i : Int) + 1) = (i : Int) + 1 := by rw [IntKind.wrap_i64]; omega
  have hw2 : IntKind.i64.wrap ((i : Int) + 1 + ((n - j : Nat) : Int)) = (tot : Int) := by rw [IntKind.wrap_i64]; omega
  have hcap : ¬ ((c : Int) < (tot : Int)) := by omega
  have hle1 : (i : Int) + 1 ≤ (j : Int) := by omega
  have hci : ¬ (c = i) := by omega
  have hci1 : ¬ (c = i + 1) := by omega
  have hcj : ¬ (c = j) := by omega
  have hin : i ≤ n := by omega
  have hjn : j ≤ n := by omega
  have hi1 : ((i : Int) + 1).toNat = i + 1 := by omega
  have ht : ((i : Int) + 1 + ((n - j : Nat) : Int)).toNat = tot := by omega
  have hcap2 : ¬ ((c : Int) < (i : Int) + 1 + ((n - j : Nat) : Int)) := by omega
  have hb2 : (0 : Int) ≤ (i : Int) + 1 + ((n - j : Nat) : Int) := by omega
  have hi1t : (i : Int) + 1 ≤ (tot : Int) := by omega
  have hit : i ≤ tot := by omega
  have hb1 : (0 : Int) ≤ (i : Int) + 1 := by omega
  rw [← htot]
  by_cases hlt : tot < n
  · have hcl0 := fun q => run_clear_row (P := Tryz.prog) ((w.drewN q).setRow b cur2) 53 34 _ i0 Tryz.underlying53 hi0 hz0 5 rfl (by decide) b (tot * 5) (n - tot) (c - tot) cur2 T (hg2 q) (by rw [hsz2]; omega) (by omega)
    obtain ⟨zs, hzl, hcl3⟩ : ∃ zs : List Value, zs.length = (n - tot) * 5 ∧ ∀ q ty, (Builtin.clear_ #[53] ty #[.slice (some ⟨b, tot * 5, none⟩) (n - tot) (c - tot)]).run Tryz.prog ((w.drewN q).setRow b cur2) = .ok (.tuple #[]) (((w.drewN q).setRow b cur2).setRow b (cur2.toList.take (tot * 5) ++ zs ++ cur2.toList.drop (tot * 5 + zs.length)).toArray) :=
      ⟨_, (hcl0 0).1, fun q ty => (hcl0 q).2 ty⟩
    clear hcl0
    have hct : ¬ (c = tot) := by omega
    have hl3 : (cur2.toList.take (tot * 5)).length = tot * 5 := by rw [List.length_take, Array.length_toList, hsz2]; omega
    have s2 : (cur2.toList.take (tot * 5) ++ zs ++ cur2.toList.drop (tot * 5 + zs.length)).toArray.size = c * 5 := by
      simp only [List.size_toArray, List.length_append, hl3, List.length_drop, Array.length_toList, hsz2, hzl]
      omega
    have s3 : (cur2.toList.take (tot * 5) ++ zs ++ cur2.toList.drop (tot * 5 + zs.length)).toArray.toList.take (tot * 5) = cs.take (i * 5) ++ vs ++ cs.drop (j * 5) := by
      rw [List.toList_toArray, List.append_assoc, List.take_left' hl3, q2]
    generalize (cur2.toList.take (tot * 5) ++ zs ++ cur2.toList.drop (tot * 5 + zs.length)).toArray = cur3 at hcl3 s2 s3
    have hcl4 : ∀ q ty, (Builtin.clear_ #[53] ty #[.slice (some ⟨b, tot * 5, none⟩) (n - tot) (c - tot)]).run Tryz.prog ((w.drewN q).setRow b cur2) = .ok (.tuple #[]) ((w.drewN q).setRow b cur3) := fun q ty => by rw [hcl3 q ty, setRow_setRow]
    have hfin : ∀ q, w.grownBy ((w.drewN q).setRow b cur3) (some b) ∧ ∃ cur' : Array Value, ((w.drewN q).setRow b cur3).heap[b]? = some (.cells cur' T (0, 0)) ∧ cur'.size = c * 5 ∧ cur'.toList.take (tot * 5) = cs.take (i * 5) ++ vs ++ cs.drop (j * 5) := fun q => ⟨hgr q _, cur3, setRow_heap (w.drewN q) b cur _ T _ (hgd q), s2, s3⟩
    clear hcur1 hcur2 hcl3 hfar hdl hl1 hl2 hl3 hlen hsz1 hsz2 s2 s3 q1 q2 hg1 hg2 hgd hgvd hgr
    subst htot
    go_enter Tryz.func102, rep_ntmps
    go_wp2
    go_quiet (fail)
    go_wp2_with (at_builtin; refine wpList_copy_runI _ rfl _ _ 53 53 rfl _ _ rfl rfl (hcp1 _ _ _) ?_)
    go_region_law_o (refine step_copy_runI rfl _ _ 53 53 rfl (.slice (some ⟨b, (i + 1) * 5, none⟩) (n - j) (c - (i + 1))) (.slice (some ⟨b, j * 5, none⟩) (n - j) (c - j)) (by simp [Act.eval, Act.put] <;> omega) (by simp [Act.eval, Act.put] <;> omega) (hcp2' nq _ _ _) ?_)
    go_wp2_with (at_builtin; refine wpList_clear_run _ rfl _ _ rfl _ rfl (hcl4 _ _) ?_)
    go_ret
    exact ⟨rfl, hfin _⟩
  · have hfin : ∀ q, w.grownBy ((w.drewN q).setRow b cur2) (some b) ∧ ∃ cur' : Array Value, ((w.drewN q).setRow b cur2).heap[b]? = some (.cells cur' T (0, 0)) ∧ cur'.size = c * 5 ∧ cur'.toList.take (tot * 5) = cs.take (i * 5) ++ vs ++ cs.drop (j * 5) := fun q => ⟨hgr q _, cur2, hg2 q, hsz2, q2⟩
    have htn2 : tot = n := by omega
    have hcl4 : ∀ W a c' ty, (Builtin.clear_ #[53] ty #[.slice a 0 c']).run Tryz.prog W = .ok (.tuple #[]) W := fun W a c' ty => run_clear_none W 53 34 i0 _ Tryz.underlying53 hi0 hz0 a c' ty
    have hn0 : n - tot = 0 := by omega
    clear htn2 hlt hcur1 hcur2 hfar hdl hl1 hl2 hlen hsz1 hsz2 q1 q2 hg1 hg2 hgd hgvd hgr
    by_cases hct : c = tot
    · subst hct
      subst htot
      go_enter Tryz.func102, rep_ntmps
      go_wp2
      go_quiet (fail)
      go_wp2_with (at_builtin; refine wpList_copy_runI _ rfl _ _ 53 53 rfl _ _ rfl rfl (hcp1 _ _ _) ?_)
      go_region_law_o (refine step_copy_runI rfl _ _ 53 53 rfl (.slice (some ⟨b, (i + 1) * 5, none⟩) (n - j) (i + 1 + (n - j) - (i + 1))) (.slice (some ⟨b, j * 5, none⟩) (n - j) (i + 1 + (n - j) - j)) (by simp [Act.eval, Act.put] <;> omega) (by simp [Act.eval, Act.put] <;> omega) (hcp2' nq _ _ _) ?_)
      go_wp2_with (at_builtin; refine wpList_clear_run _ rfl _ _ rfl _ rfl (hcl4 _ _ _ _) ?_)
      go_ret
      obtain ⟨f1, cur', f2, f3, f4⟩ := hfin (nq + 1)
      exact ⟨rfl, f1, cur', f2, f3, by simpa [List.append_assoc] using f4⟩
    · skip
      subst htot
      go_enter Tryz.func102, rep_ntmps
      go_wp2
      go_quiet (fail)
      go_wp2_with (at_builtin; refine wpList_copy_runI _ rfl _ _ 53 53 rfl _ _ rfl rfl (hcp1 _ _ _) ?_)
      go_region_law_o (refine step_copy_runI rfl _ _ 53 53 rfl (.slice (some ⟨b, (i + 1) * 5, none⟩) (n - j) (c - (i + 1))) (.slice (some ⟨b, j * 5, none⟩) (n - j) (c - j)) (by simp [Act.eval, Act.put] <;> omega) (by simp [Act.eval, Act.put] <;> omega) (hcp2' nq _ _ _) ?_)
      go_wp2_with (at_builtin; refine wpList_clear_run _ rfl _ _ rfl _ rfl (hcl4 _ _ _ _) ?_)
      go_ret
      obtain ⟨f1, cur', f2, f3, f4⟩ := hfin (nq + 1)
      exact ⟨rfl, f1, cur', f2, f3, by simpa [List.append_assoc] using f4⟩
theorem rep102 (T : Nat) : RepC Tryz.prog 102 5 T := by
  intro w v n xs i j vb vc cv Tv vs hown h1x hij hjn hgv hvt hvl h1v hne
  rcases hown.2 with ⟨rfl, rfl⟩ | ⟨g, cap, cur, rfl, _, hg, hnc, hcm, hcs, htk⟩
  · omega
  · have hvg : vb ≠ g := fun h => hne (by rw [h]; rfl)
    have hxl : xs.length = n * 5 := hown.1
    have hc63 : cap ≤ 9223372036854775807 := by unfold maxLen at hcm; omega
    have hgw : g < w.heap.size := (Array.getElem?_eq_some_iff.1 hg).1
    by_cases hj : j = n
    · subst hj
      refine (rep_end g j cap i vb vc T Tv cur cv xs vs w hij hnc hc63 hvg hg hcs hxl htk hgv hvt hvl h1v).mono ?_
      rintro e w' ⟨rfl, hgr, cur', k1, k2, k3⟩
      have hgr' : w.heap.size ≤ w'.heap.size := hgr.size
      refine ⟨_, rfl, ⟨?_, .inr ⟨g, cap, cur', by rw [Nat.sub_self, Nat.add_zero], Nat.zero_le _, k1, by omega, hcm, k2.trans hcs, ?_⟩⟩, hgr, fun b hb => ?_⟩
      · simp only [List.length_append, List.length_take, List.length_drop, hvl, hxl]; omega
      · rw [Nat.sub_self, Nat.add_zero, k3, List.drop_of_length_le (by omega), List.append_nil]
      · simp [blk] at hb; subst hb
        exact ⟨by omega, .inr rfl⟩
    · refine (rep_mid g n cap i j vb vc T Tv cur cv xs vs w hij (by omega) hnc hc63 hvg hg hcs hxl htk hgv hvt hvl h1x h1v).mono ?_
      rintro e w' ⟨rfl, hgr, cur', k1, k2, k3⟩
      have hgr' : w.heap.size ≤ w'.heap.size := hgr.size
      refine ⟨_, rfl, ⟨?_, .inr ⟨g, cap, cur', rfl, Nat.zero_le _, k1, by omega, hcm, k2, k3⟩⟩, hgr, fun b hb => ?_⟩
      · simp only [List.length_append, List.length_take, List.length_drop, hvl, hxl]; omega
      · simp [blk] at hb; subst hb
        exact ⟨by omega, .inr rfl⟩
end Go.Ring
