/- Small lemmas that the texts written by this session's program use: a call through a value that is a known function. No condition of their own. -/
import Derived.Test.YtppifefhpjhmaaaWMore
import Derived.Test.YtppifefhpjhmaaaWLast
namespace Go.Proofs.Ytppifefhpjhmaaa.XWords
open Go.RowKit Go.Proofs.YtppifefhpjhmaaaW.PrintWords Go.Proofs.YtppifefhpjhmaaaW.PrintLast Go.Proofs.YtppifefhpjhmaaaW.PrintMore
section
variable {P : Program} {ops : Array Oper} {Q : Exit → Act → World → Prop}
/-- The operation is a call through a place's value. -/
theorem gate_value {o : Oper} {rest : List Oper} {a : Act} {W : World} {t : Tmp} {as : Array Operand} {ts : Array TypeId} (_ho : o.op = .call { callee := .value (.tmp t), args := as, argTypes := ts }) (h : wpList P ops Q (o :: rest) a W) : wpList P ops Q (o :: rest) a W := h
/-- A call through a place that holds a known function, with what it captured behind the arguments. -/
theorem goesV_ {rest : List Oper} {oi : Oper} {a : Act} {w : World} (N : Option Tmp) (hd : oi.dst = N) (hg : oi.guard = none) {f : FuncId} {fn : Func} {as : Array Operand} {ts : Array TypeId} {t : Tmp} (hf : P.funcs[f]? = some fn) (hname : (fn.name == "runtime.NumGoroutine") = false) (hb : fn.body.isSome = true) (caps args : Array Value)
    (hop : oi.op = .call { callee := .value (.tmp t), args := as, argTypes := ts }) (hx : a.eval (.tmp t) = .func (.func f) #[] caps) (hargs : as.map a.eval ++ caps = args)
    (h : Calls P f args w fun e w' => ∃ v, e = .returned v ∧ wpList P ops Q rest (a.put N v) w') : wpList P ops Q (oi :: rest) a w := by
  refine wpList_plain hg fun K hK => ?_
  have he := enters_ hf hname hb args w
  have hrun : (execOp a.eval oi).run P w = .ok (.enter f args) w := by
    unfold execOp
    simp [hop, resolve, Deferred.ofValue, hx, invoke, hargs, he]
  unfold Oper.wp
  rw [hrun, Oper.upon_enter]
  refine h.mono fun e w'' hh => ?_
  obtain ⟨v, rfl, hk⟩ := hh
  subst hd
  exact hK _ _ hk
end
/-- A block of eight whole numbers. -/
abbrev cs8 (t : TypeId) (a b c d e f g h : Int) : Obj := .cells #[.int .i64 a, .int .i64 b, .int .i64 c, .int .i64 d, .int .i64 e, .int .i64 f, .int .i64 g, .int .i64 h] t (0, 0)
section
variable {W : World} {g : Nat} {q : Addr}
theorem far2 {a0 a1 : Nat} {u0 u1 : Value} (h : q.block ≠ g) : ((W.setCell ⟨g, a0, none⟩ u0).setCell ⟨g, a1, none⟩ u1).cell? q = W.cell? q := (cell_far (p := ⟨g, _, none⟩) h _).trans (cell_far (p := ⟨g, _, none⟩) h _)
theorem far3 {a0 a1 a2 : Nat} {u0 u1 u2 : Value} (h : q.block ≠ g) : (((W.setCell ⟨g, a0, none⟩ u0).setCell ⟨g, a1, none⟩ u1).setCell ⟨g, a2, none⟩ u2).cell? q = W.cell? q := (cell_far (p := ⟨g, _, none⟩) h _).trans (far2 h)
theorem far4 {a0 a1 a2 a3 : Nat} {u0 u1 u2 u3 : Value} (h : q.block ≠ g) : ((((W.setCell ⟨g, a0, none⟩ u0).setCell ⟨g, a1, none⟩ u1).setCell ⟨g, a2, none⟩ u2).setCell ⟨g, a3, none⟩ u3).cell? q = W.cell? q := (cell_far (p := ⟨g, _, none⟩) h _).trans (far3 h)
theorem far5 {a0 a1 a2 a3 a4 : Nat} {u0 u1 u2 u3 u4 : Value} (h : q.block ≠ g) : (((((W.setCell ⟨g, a0, none⟩ u0).setCell ⟨g, a1, none⟩ u1).setCell ⟨g, a2, none⟩ u2).setCell ⟨g, a3, none⟩ u3).setCell ⟨g, a4, none⟩ u4).cell? q = W.cell? q := (cell_far (p := ⟨g, _, none⟩) h _).trans (far4 h)
theorem far6 {a0 a1 a2 a3 a4 a5 : Nat} {u0 u1 u2 u3 u4 u5 : Value} (h : q.block ≠ g) : ((((((W.setCell ⟨g, a0, none⟩ u0).setCell ⟨g, a1, none⟩ u1).setCell ⟨g, a2, none⟩ u2).setCell ⟨g, a3, none⟩ u3).setCell ⟨g, a4, none⟩ u4).setCell ⟨g, a5, none⟩ u5).cell? q = W.cell? q := (cell_far (p := ⟨g, _, none⟩) h _).trans (far5 h)
theorem far7 {a0 a1 a2 a3 a4 a5 a6 : Nat} {u0 u1 u2 u3 u4 u5 u6 : Value} (h : q.block ≠ g) : (((((((W.setCell ⟨g, a0, none⟩ u0).setCell ⟨g, a1, none⟩ u1).setCell ⟨g, a2, none⟩ u2).setCell ⟨g, a3, none⟩ u3).setCell ⟨g, a4, none⟩ u4).setCell ⟨g, a5, none⟩ u5).setCell ⟨g, a6, none⟩ u6).cell? q = W.cell? q := (cell_far (p := ⟨g, _, none⟩) h _).trans (far6 h)
theorem far8 {a0 a1 a2 a3 a4 a5 a6 a7 : Nat} {u0 u1 u2 u3 u4 u5 u6 u7 : Value} (h : q.block ≠ g) : ((((((((W.setCell ⟨g, a0, none⟩ u0).setCell ⟨g, a1, none⟩ u1).setCell ⟨g, a2, none⟩ u2).setCell ⟨g, a3, none⟩ u3).setCell ⟨g, a4, none⟩ u4).setCell ⟨g, a5, none⟩ u5).setCell ⟨g, a6, none⟩ u6).setCell ⟨g, a7, none⟩ u7).cell? q = W.cell? q := (cell_far (p := ⟨g, _, none⟩) h _).trans (far7 h)
end
/-- A variable in memory, told as a row of one element. -/
theorem C_of_blk {α : Type} {d : Kd α} {w : World} {g : Nat} {cs : Array Value} {t : TypeId} {x : α} (hb : w.heap[g]? = some (.cells cs t (0, 0))) (hk : d.K w x cs.toList) : Kd.C d w (some ⟨g, 0, none⟩) 1 [x] := by
  refine ⟨rfl, by decide, fun _ => ⟨_, rfl, fun j p hj => ?_⟩⟩
  cases j with
  | succ j => simp at hj
  | zero =>
    obtain rfl : x = p := by simpa using hj
    refine ⟨cs.toList, d.K_len hk, hk, fun i u hu => ?_⟩
    rw [Nat.zero_mul, Nat.zero_add, add_plain]
    rw [blk_cell hb i]
    simpa using hu
/-! A slice that is made without elements, but with room. -/
section
variable {α : Type} {P : Program} {ops : Array Oper} {Q : Exit → Act → World → Prop} {rest : List Oper} {o : Oper} {a : Act}
theorem make0_run {W : World} {t e : TypeId} {x y : Operand} {z : Value} {bytes sz : Nat} (ho : o.op = .makeSlice t x y) (n : Int) (hx : a.eval x = .int .i64 0) (hy : a.eval y = .int .i64 n) (ht : P.underlying t = some (.slice e))
    (hinfo : (P.info? e).map (fun i => (i.zero, i.size, i.bytes)) = some (some z, sz, bytes)) (hb0 : 0 < bytes) (h0 : 0 ≤ n) (hl : n.toNat * bytes ≤ 281474976710656) :
    n.toNat ≤ 281474976710656 ∧ (execOp a.eval o).run P W = .ok (.value (.slice (some ⟨W.heap.size, 0, none⟩) 0 n.toNat)) (W.alloc (.cells (madeCells z.cells (n.toNat * sz)) e)) := by
  obtain ⟨m, rfl⟩ := Int.eq_ofNat_of_zero_le h0
  simp only [Int.toNat_natCast] at hl ⊢
  obtain ⟨i0, hi, hzz⟩ := Option.map_eq_some_iff.1 hinfo
  simp only [Prod.mk.injEq] at hzz
  obtain ⟨hz0, hz1, hz2⟩ := hzz
  have hm : m ≤ 281474976710656 := Nat.le_trans (Nat.le_mul_of_pos_right _ hb0) hl
  have hr := run_make (P := P) W t e i0 z ht hi hz0 .i64 .i64 0 (m : Int) (Int.le_refl _) (by omega)
    (by
      have h3 : ((i0.bytes * m : Nat) : Int) ≤ 281474976710656 := by rw [hz2, Nat.mul_comm]; omega
      rwa [Int.natCast_mul] at h3) (by omega)
  simp only [Int.toNat_natCast, Int.toNat_zero] at hr
  rw [hz1] at hr
  exact ⟨hm, by simp [execOp, ho, hx, hy, hr]⟩
theorem R_make0 (d : Kd α) {w0 W : World} (base e : Nat) (hgd : o.guard = none) {N : Tmp} (_hd : o.dst = some N) (t : TypeId) (x y : Operand) (ho : o.op = .makeSlice t x y) (n : Int) (hx : a.eval x = .int .i64 0) (hy : a.eval y = .int .i64 n)
    (ht : P.underlying t = some (.slice e)) (z : Value) (bytes : Nat) (hinfo : (P.info? e).map (fun i => (i.zero, i.size, i.bytes)) = some (some z, d.sz, bytes)) (_hz : z.cells.size = d.sz) (_hs0 : 0 < d.sz) (hb0 : 0 < bytes)
    (z0 : α) {ok okp : Nat → Prop} (_hzero : d.M W base okp z0 z.cells.toList) (_hok : ∀ k, okp k → ok k) (hfresh : ok W.heap.size) (h0 : 0 ≤ n) (hl : n.toNat * bytes ≤ 281474976710656) (HB : Below base w0 W) (hbase : base ≤ W.heap.size)
    (h : ∀ v1 w1, d.R e w1 base ok v1 (List.replicate 0 z0) → Below base w0 w1 → W.grownBy w1 none → (∃ b, v1.ownBlock = some b ∧ W.heap.size ≤ b) → wpList P ops Q rest (a.put o.dst v1) w1) : wpList P ops Q (o :: rest) a W := by
  obtain ⟨hm, hrun⟩ := make0_run (W := W) (P := P) ho n hx hy ht hinfo hb0 h0 hl
  refine Kd.event_run hgd hrun (h _ _ ⟨fun k hk => ?_, [], ?_, Reps.none _ _⟩ (HB.alloc hbase _) (World.grownBy_alloc W _ none) ⟨W.heap.size, by simp [Value.ownBlock], Nat.le_refl _⟩)
  · have : W.heap.size = k := by simpa [Value.ownBlock] using hk
    subst this
    exact hfresh
  · exact World.ownsRow_made W _ n.toNat hbase (by unfold maxLen; omega) (size_madeCells _ _)
theorem R_make0_step (d : Kd α) {w0 W : World} (base e : Nat) {Kc : Act → World → Prop} (hw : Region.wanted o (yielded ops a.tmps) = true) {N : Tmp} (_hd : o.dst = some N) (t : TypeId) (x y : Operand) (ho : o.op = .makeSlice t x y) (n : Int) (hx : a.eval x = .int .i64 0) (hy : a.eval y = .int .i64 n)
    (ht : P.underlying t = some (.slice e)) (z : Value) (bytes : Nat) (hinfo : (P.info? e).map (fun i => (i.zero, i.size, i.bytes)) = some (some z, d.sz, bytes)) (_hz : z.cells.size = d.sz) (_hs0 : 0 < d.sz) (hb0 : 0 < bytes)
    (z0 : α) {ok okp : Nat → Prop} (_hzero : d.M W base okp z0 z.cells.toList) (_hok : ∀ k, okp k → ok k) (hfresh : ok W.heap.size) (h0 : 0 ≤ n) (hl : n.toNat * bytes ≤ 281474976710656) (HB : Below base w0 W) (hbase : base ≤ W.heap.size)
    (h : ∀ v1 w1, d.R e w1 base ok v1 (List.replicate 0 z0) → Below base w0 w1 → W.grownBy w1 none → (∃ b, v1.ownBlock = some b ∧ W.heap.size ≤ b) → Kc (a.put o.dst v1) w1) : if Region.wanted o (yielded ops a.tmps) = true then Oper.wp P o a W Kc Q else Kc (a.put o.dst undef) W := by
  obtain ⟨hm, hrun⟩ := make0_run (W := W) (P := P) ho n hx hy ht hinfo hb0 h0 hl
  refine event_step hw hrun (h _ _ ⟨fun k hk => ?_, [], ?_, Reps.none _ _⟩ (HB.alloc hbase _) (World.grownBy_alloc W _ none) ⟨W.heap.size, by simp [Value.ownBlock], Nat.le_refl _⟩)
  · have : W.heap.size = k := by simpa [Value.ownBlock] using hk
    subst this
    exact hfresh
  · exact World.ownsRow_made W _ n.toNat hbase (by unfold maxLen; omega) (size_madeCells _ _)
end
section
theorem zA : type_of% @below_alloc := @below_alloc
theorem zB : type_of% @pw_below_drewN := @pw_below_drewN
theorem zC : type_of% @below_drew1 := @below_drew1
theorem zD : type_of% @blk_alloc := @blk_alloc
theorem zE : type_of% @blk_drewN := @blk_drewN
theorem zF : type_of% @blk_drew := @blk_drew
theorem zG : type_of% @Kd.R_alloc := @Kd.R_alloc
theorem zH : type_of% @Kd.R_drewN := @Kd.R_drewN
theorem zI : type_of% @Kd.R_drew := @Kd.R_drew
theorem zJ : type_of% @Kd.C_alloc := @Kd.C_alloc
theorem zK : type_of% @Kd.C_drewN := @Kd.C_drewN
theorem zL : type_of% @Kd.C_drew := @Kd.C_drew
theorem zM : type_of% @Kd.V_alloc := @Kd.V_alloc
theorem zN : type_of% @Kd.V_drewN := @Kd.V_drewN
theorem zO : type_of% @Kd.V_drew := @Kd.V_drew
theorem zP : type_of% @cell_far := @cell_far
theorem zQ : type_of% @blk_cell := @blk_cell
theorem zR : type_of% @World.block_lt_of_cell? := @World.block_lt_of_cell?
theorem zS : type_of% @Nat.lt_of_lt_of_le := @Nat.lt_of_lt_of_le
theorem zT : type_of% @List.setIfInBounds_toArray := @List.setIfInBounds_toArray
theorem zU : type_of% @List.set_cons_zero := @List.set_cons_zero
theorem zV : type_of% @List.set_cons_succ := @List.set_cons_succ
theorem zW : type_of% @below_size := @below_size
theorem zX : type_of% @of_decide_eq_true := @of_decide_eq_true
theorem zY : type_of% @Kd.Q_alloc := @Kd.Q_alloc
theorem zZ : type_of% @Kd.Q_drewN := @Kd.Q_drewN
end
end Go.Proofs.Ytppifefhpjhmaaa.XWords
