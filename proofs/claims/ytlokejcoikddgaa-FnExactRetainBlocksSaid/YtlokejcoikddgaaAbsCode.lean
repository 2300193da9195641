/- Code over plain values: what a call asks, a region in a row, branches, blocks, loops, a whole function. No condition. -/
import Derived.Test.YtlokejcoikddgaaAbsZ
import Derived.Deep.LoopGhost
namespace Go.Abs
open Go Go.RowKit Go.Eager

/-- What a function says: of arguments that read so, it returns a value that reads so, and leaves all that was there. -/
def PFn (P : Program) (f : FuncId) (args : List SV) (r : SV) : Prop :=
  ∀ (w : World) (O : Nat → Prop) (vs : Array Value), (∀ b, O b → b < w.heap.size) → vs.size = args.length →
    (∀ (i : Nat) (s : SV) (u : Value), args[i]? = some s → vs[i]? = some u → Rep w O s u) →
    Calls P f vs w fun e w' => ∃ v, e = .returned v ∧ Ext w w' ∧ Rep w' O r v

def SV.scal : SV → Bool
  | .raw _ => true
  | .tup l => l.all fun | .raw _ => true | _ => false
  | _ => false

theorem Rep.scal {w w' : World} {O O' : Nat → Prop} {s : SV} {v : Value} (h : Rep w O s v) (h1 : s.scal = true) : Rep w' O' s v := by
  cases h with
  | raw v => exact .raw v
  | tup l vs hn hr =>
    refine .tup l vs hn fun i s u hs hu => ?_
    have h2 := List.all_eq_true.1 h1 s (List.mem_of_getElem? hs)
    have h3 := hr i s u hs hu
    cases s <;> simp at h2
    cases h3; exact .raw _
  | _ => simp [SV.scal] at h1

/-- What is handed to a call: a value; a row or a box of ours, for the time of the call. -/
def lend (h : List (Nat × Ent)) : LV → Option SV
  | .sv s => some s
  | .own k => (match h.lookup k with | some (.row n _ l) => some (.sl n l) | _ => none)
  | .ptr k 0 => (match h.lookup k with | some (.box c) => (match svs c with | some (s :: l) => some (.ptr (.agg (s :: l))) | _ => none) | _ => none)
  | _ => none
def lends (h : List (Nat × Ent)) : List LV → Option (List SV)
  | [] => some []
  | lv :: l => match lend h lv, lends h l with | some s, some t => some (s :: t) | _, _ => none
def allSv : List LV → Bool
  | [] => true
  | .sv _ :: l => allSv l
  | _ :: _ => false

section
variable {Γ : Ctx} {σ : St} {ρ : Nat → Value} {a : Act} {w : World}

theorem box_view (I : Iv Γ σ ρ a w) {k : Nat} {c : List LV} {l : List SV} (hk : σ.h.lookup k = some (.box c)) (hl : svs c = some l) (hpos : l ≠ []) : Rep w Γ.O (.ptr (.agg l)) (ρ k) := by
  obtain ⟨b, T, cur, hr, hcur, hsz, hc⟩ := I.ent k _ hk
  have hcl := svs_spec hl
  have kp : Kp w (Own Γ σ.h ρ) w Γ.O := fun b _ h => ⟨rfl, fun hO => h (.inl hO)⟩
  have hbk : blk (ρ k) = some b := by rw [hr]; rfl
  rw [hr]
  have hlen : cur.size = l.length := by rw [hsz, hcl]; simp
  refine Rep.ptr (.agg l) b 0 (.agg cur) ?_ (Rep.agg l cur hlen (fun i u hu => ?_) (fun i s u hs hu => ?_)) ?_ ?_
  · intro hO
    have h1 := I.out b hO
    rcases (I.new k _ b hk hbk).1 with h | h
    · omega
    · exact h1.2 h
  · have hlt : i < c.length := by rw [← hsz]; exact (Array.getElem?_eq_some_iff.1 hu).1
    exact (hc i _ u (List.getElem?_eq_getElem hlt) hu).2
  · have h1 : c[i]? = some (.sv s) := by rw [hcl, List.getElem?_map, hs]; rfl
    exact Rep.kp (hc i _ u h1 hu).1 kp
  · simp only [Value.cells]
    have : 0 < l.length := List.length_pos_iff.2 hpos
    omega
  · intro j u hu
    rw [cell_of_row w b (0 + j) cur T (0, 0) hcur, Nat.zero_add]; exact hu

theorem row_view0 (I : Iv Γ σ ρ a w) {k n T : Nat} {l : List SV} (hk : σ.h.lookup k = some (.row n T l)) : Rep w Γ.O (.sl n l) (ρ k) :=
  Rep.kp (row_view I hk) fun _ _ h => ⟨rfl, fun hO => h (.inl hO)⟩

theorem lend_rep (I : Iv Γ σ ρ a w) {lv : LV} {s : SV} {v : Value} (hv : LRep w (Own Γ σ.h ρ) ρ lv v) (h : lend σ.h lv = some s) : Rep w Γ.O s v := by
  unfold lend at h
  split at h
  · cases h; exact Rep.kp hv fun _ _ h => ⟨rfl, fun hO => h (.inl hO)⟩
  · split at h
    · rename_i hk
      cases h
      rw [show v = _ from hv]; exact row_view0 I hk
    · cases h
  · split at h
    · rename_i hk
      split at h
      · rename_i hc
        cases h
        obtain ⟨b, h1, h2⟩ := hv
        have h3 := box_view I hk hc (by simp)
        rw [h2, ← h1]; exact h3
      · cases h
    · cases h
  · cases h

theorem lends_spec : ∀ {ls : List LV} {as : List SV}, lends σ.h ls = some as → as.length = ls.length ∧ ∀ (i : Nat) (s : SV), as[i]? = some s → ∃ lv, ls[i]? = some lv ∧ lend σ.h lv = some s
  | [], as, h => by simp [lends] at h; subst h; simp
  | lv :: ls, as, h => by
    unfold lends at h
    split at h
    · rename_i s t h1 h2
      cases h
      obtain ⟨h3, h4⟩ := lends_spec h2
      refine ⟨by simp [h3], fun i s' hi => ?_⟩
      cases i with
      | zero => simp at hi; subst hi; exact ⟨lv, by simp, h1⟩
      | succ i => simpa using h4 i s' (by simpa using hi)
    · cases h

theorem allSv_lends : ∀ {ls : List LV} {as : List SV}, allSv ls = true → lends σ.h ls = some as → ls = as.map LV.sv
  | [], as, _, h => by simp [lends] at h; subst h; rfl
  | lv :: ls, as, h1, h => by
    cases lv <;> simp [allSv] at h1
    unfold lends at h
    simp only [lend] at h
    split at h
    · rename_i s' t h2 h3
      cases h
      cases h2
      rw [allSv_lends h1 h3]; rfl
    · cases h

theorem run_callFunc {P : Program} {f : FuncId} {fn : Func} {args : Array Value} {w : World} (hf : P.funcs[f]? = some fn) (hname : (fn.name == "runtime.NumGoroutine") = false) (hb : fn.body.isNone = false) : (callFunc f args).run P w = .ok (.enter f args) w := by
  unfold callFunc
  rw [Sem.run_bind]
  show (Result.andThen (.ok P w) _) = _
  simp only [Result.andThen_ok, hf]
  rw [if_neg (by rw [hname]; decide), if_neg (by rw [hb]; decide)]
  rfl

/-- A call of a function that leaves all as it is. -/
theorem ok_call (I : Iv Γ σ ρ a w) {o : Oper} {f : FuncId} {fn : Func} {args : Array Operand} {ts : Array TypeId} {as : List SV} {r : SV} {K : St → Prop}
    {y : Operand} (ho : o.op = .call { callee := .value y, args := args, argTypes := ts }) (hy : σ.ev y = .sv (.raw (.func (.func f) #[] #[]))) (hdn : dstOk Γ o = true) (hf : Γ.P.funcs[f]? = some fn) (hname : (fn.name == "runtime.NumGoroutine") = false) (hb : fn.body.isNone = false)
    (ha : lends σ.h (args.toList.map σ.ev) = some as) (hr : (allSv (args.toList.map σ.ev) || r.scal) = true) (hc : PFn Γ.P f as r) (hk : K (σ.put o.dst (.sv r))) : XOk Γ a w o True K := by
  obtain ⟨hl, hs⟩ := lends_spec ha
  have hrun : (execOp a.eval o).run Γ.P w = .ok (.enter f (args.map a.eval)) w := by
    have hY : a.eval y = .func (.func f) #[] #[] := ev_raw I hy
    simp [execOp, ho, resolve, hY, Deferred.ofValue, invoke, run_callFunc hf hname hb]
  have hsz : (args.map a.eval).size = as.length := by rw [hl]; simp
  have hget : ∀ (i : Nat) (s : SV) (u : Value), as[i]? = some s → (args.map a.eval)[i]? = some u → ∃ x, args.toList[i]? = some x ∧ u = a.eval x ∧ lend σ.h (σ.ev x) = some s := by
    intro i s u hi hu
    obtain ⟨lv, h1, h2⟩ := hs i s hi
    rw [List.getElem?_map] at h1
    rw [Array.getElem?_map] at hu
    cases hx : args[i]? with
    | none => simp [hx] at hu
    | some x =>
      have hx' : args.toList[i]? = some x := by simpa using hx
      simp only [hx', Option.map_some, Option.some.injEq] at h1
      simp only [hx, Option.map_some, Option.some.injEq] at hu
      subst h1
      exact ⟨x, hx', hu.symm, h2⟩
  unfold XOk oN
  rw [hrun]
  by_cases hall : allSv (args.toList.map σ.ev) = true
  · have heq := allSv_lends hall ha
    refine (hc w (Own Γ σ.h ρ) (args.map a.eval) (fun b hb => blk_lt I hb) hsz fun i s u hi hu => ?_).mono ?_
    · obtain ⟨x, hx, rfl, h2⟩ := hget i s u hi hu
      have h3 : (args.toList.map σ.ev)[i]? = some (.sv s) := by rw [heq, List.getElem?_map, hi]; rfl
      rw [List.getElem?_map, hx] at h3
      simp only [Option.map_some, Option.some.injEq] at h3
      have := I.ev x
      rw [h3] at this
      exact this
    · rintro e w' ⟨v, he, hx, hv⟩
      exact ⟨v, he, _, hk, ⟨ρ, (I.ext hx).put (dstOk_spec hdn) hv⟩, fun _ => hx⟩
  · have hsc : r.scal = true := by simpa [hall] using hr
    refine (hc w Γ.O (args.map a.eval) (fun b hb => blk_lt I (.inl hb)) hsz fun i s u hi hu => ?_).mono ?_
    · obtain ⟨x, hx, rfl, h2⟩ := hget i s u hi hu
      exact lend_rep I (I.ev x) h2
    · rintro e w' ⟨v, he, hx, hv⟩
      exact ⟨v, he, _, hk, ⟨ρ, (I.ext hx).put (dstOk_spec hdn) (Rep.scal hv hsc)⟩, fun _ => hx⟩
end

/-! ### Code -/
def Ok (Γ : Ctx) (c : Code) (σ : St) (Q : Exit → St → Prop) : Prop :=
  ∀ a w, Inv Γ σ a w → c.wp Γ.P (fun e a' w' => ∃ σ', Q e σ' ∧ Inv Γ σ' a' w') a w

/-- What is known of the later frame is enough for the earlier one's words. -/
def Le (Γ : Ctx) (σ' σ : St) : Prop := ∀ a w, Inv Γ σ a w → Inv Γ σ' a w

section
variable {Γ : Ctx} {σ : St} {Q : Exit → St → Prop}

theorem Ok.le {c : Code} {σ' : St} (hl : Le Γ σ' σ) (h : Ok Γ c σ' Q) : Ok Γ c σ Q := fun a w I => h a w (hl a w I)
theorem Ok.mono {c : Code} {Q' : Exit → St → Prop} (h : Ok Γ c σ Q) (hq : ∀ e σ, Q e σ → Q' e σ) : Ok Γ c σ Q' :=
  fun a w I => wp_mono (h a w I) fun _ _ _ ⟨σ', h1, h2⟩ => ⟨σ', hq _ _ h1, h2⟩
theorem ok_skip (h : Q .normal σ) : Ok Γ .skip σ Q := fun _ _ I => wp_skip ⟨σ, h, I⟩
theorem ok_ret (h : Q .ret σ) : Ok Γ .ret σ Q := fun _ _ I => wp_ret ⟨σ, h, I⟩
theorem ok_exit {id : Nat} (h : Q (.exit id) σ) : Ok Γ (.exit id) σ Q := fun _ _ I => wp_exit ⟨σ, h, I⟩

def thenQ (K : St → Prop) (Q : Exit → St → Prop) : Exit → St → Prop
  | .normal, σ => K σ
  | e, σ => Q e σ
theorem ok_seq {x y : Code} (h : ∀ K : St → Prop, (∀ σ', Ok Γ y σ' Q → K σ') → Ok Γ x σ (thenQ K Q)) : Ok Γ (.seq x y) σ Q := by
  intro a w I
  refine wp_seq (wp_mono (h (fun σ' => Ok Γ y σ' Q) (fun _ h => h) a w I) ?_)
  rintro e a' w' ⟨σ', h1, h2⟩
  cases e with
  | normal => exact h1 a' w' h2
  | _ => exact ⟨σ', h1, h2⟩

/-- What stands last in a block: the way out is the block's own. -/
theorem ok_last {x : Code} (h : ∀ K : St → Prop, (∀ σ', Q .normal σ' → K σ') → Ok Γ x σ (thenQ K Q)) : Ok Γ x σ Q :=
  (h (Q .normal) fun _ h => h).mono fun e _ hq => by cases e <;> exact hq
/-- Ways that meet again: a frame that is enough for each. -/
theorem ok_seq_join {ι : Type} (F : ι → St) (J : ι → Prop) {x y : Code} (h1 : Ok Γ x σ (thenQ (fun σ' => ∃ i, J i ∧ Le Γ (F i) σ') Q)) (h2 : ∀ i, J i → Ok Γ y (F i) Q) : Ok Γ (.seq x y) σ Q :=
  ok_seq fun _ hK => h1.mono fun e _ hq => by
    cases e with
    | normal => obtain ⟨i, hj, hl⟩ := hq; exact hK _ ((h2 i hj).le hl)
    | _ => exact hq

theorem ok_cond {c : Operand} {x y : Code} {t : Bool} (hc : σ.ev c = .sv (.raw (.bool t))) (h1 : t = true → Ok Γ x σ Q) (h2 : t = false → Ok Γ y σ Q) : Ok Γ (.cond c x y) σ Q := by
  rintro a w ⟨ρ, I⟩
  refine wp_cond (ev_raw I hc) ?_
  cases t
  · exact h2 rfl a w ⟨ρ, I⟩
  · exact h1 rfl a w ⟨ρ, I⟩

def blkQ (id : Nat) (Q : Exit → St → Prop) : Exit → St → Prop
  | .exit id', σ => if id' = id then Q .normal σ else Q (.exit id') σ
  | e, σ => Q e σ
theorem ok_block {id : Nat} {c : Code} (h : Ok Γ c σ (blkQ id Q)) : Ok Γ (.block id c) σ Q := by
  intro a w I
  refine wp_block (wp_mono (h a w I) ?_)
  rintro e a' w' ⟨σ', h1, h2⟩
  cases e with
  | exit id' =>
    simp only [Exit.inBlock, blkQ] at h1 ⊢
    split
    · rename_i hid; rw [if_pos hid] at h1; exact ⟨σ', h1, h2⟩
    · rename_i hid; rw [if_neg hid] at h1; exact ⟨σ', h1, h2⟩
  | _ => exact ⟨σ', h1, h2⟩

/-- A loop: frames 'F i', what holds of i, a number that each round lowers. -/
theorem ok_loop {ι : Type} (F : ι → St) (J : ι → Prop) (μ : ι → Nat) (i0 : ι) {c : Code} (hj0 : J i0) (h0 : Le Γ (F i0) σ) (round : ∀ i, J i → Ok Γ c (F i) (thenQ (fun σ' => ∃ j, μ j < μ i ∧ J j ∧ Le Γ (F j) σ') Q)) : Ok Γ (.loop c) σ Q := by
  intro a w I
  refine wp_loop_ghost (fun n a w => ∃ i, μ i = n ∧ J i ∧ Inv Γ (F i) a w) (μ i0) ⟨i0, rfl, hj0, h0 a w I⟩ ?_
  rintro n a w ⟨i, rfl, hJ, I⟩
  refine wp_mono (round i hJ a w I) ?_
  rintro e a' w' ⟨σ', h1, h2⟩
  cases e with
  | normal =>
    obtain ⟨j, hj, hJ', hl⟩ := h1
    exact ⟨μ j, hj, j, rfl, hJ', hl a' w' h2⟩
  | _ => exact ⟨σ', h1, h2⟩

/-- The function's body ends so. -/
def endQ (rs : List Operand) (R : List SV → Prop) : Exit → St → Prop
  | .normal, σ | .ret, σ => ∃ l, lends σ.h (rs.map σ.ev) = some l ∧ R l
  | _, _ => False

def resOps : List ResultVar → Option (List Operand)
  | [] => some []
  | .tmp t :: l => (resOps l).map (.tmp t :: ·)
  | _ => none
def tupSV : List SV → SV
  | [s] => s
  | l => .tup l

theorem run_results {fn : Func} {rs : List Operand} (h : resOps fn.results.toList = some rs) (a : Act) (P : Program) (w : World) :
    ∃ vs : Array Value, vs.toList = rs.map a.eval ∧ (results fn a.tmps).run P w = .ok (if h : vs.size = 1 then vs[0] else .tuple vs) w := by
  have key : ∀ (F : ResultVar → Sem Value) (_ : ∀ t, F (.tmp t) = pure (a.tmps.getD t undef)) (l : List ResultVar) (rs : List Operand) (acc : Array Value), resOps l = some rs →
      (List.foldlM (fun (bs : Array Value) r => bs.push <$> F r) acc l : Sem (Array Value)).run P w = .ok (acc ++ (rs.map a.eval).toArray) w := by
    intro F hF l
    induction l with
    | nil => intro rs acc h; simp [resOps] at h; subst h; simp
    | cons r l ih =>
      intro rs acc h
      cases r with
      | tmp t =>
        simp only [resOps] at h
        cases hr : resOps l with
        | none => simp [hr] at h
        | some rs' =>
          simp [hr] at h; subst h
          have := ih rs' (acc.push (a.tmps.getD t undef)) hr
          simp only [List.foldlM_cons, Sem.run_bind]
          rw [hF]
          simp at this ⊢
          rw [this]
          simp [Act.eval]
      | cell q t => simp [resOps] at h
  refine ⟨(rs.map a.eval).toArray, by simp, ?_⟩
  unfold results
  rw [Array.mapM_eq_foldlM, ← Array.foldlM_toList]
  simp only [Sem.run_bind]
  rw [key _ (fun _ => rfl) fn.results.toList rs #[] h]
  simp

theorem tup_rep {w : World} {O : Nat → Prop} {l : List SV} {vs : Array Value} (hn : vs.size = l.length) (h : ∀ (i : Nat) (s : SV) (u : Value), l[i]? = some s → vs[i]? = some u → Rep w O s u) : Rep w O (tupSV l) (if h : vs.size = 1 then vs[0] else .tuple vs) := by
  match l, hn, h with
  | [s], hn, h =>
    have h1 : vs.size = 1 := by simpa using hn
    rw [dif_pos h1]
    exact h 0 s _ (by simp) (by simp [h1])
  | [], hn, h =>
    rw [dif_neg (by simp at hn; simp [hn])]
    exact Rep.tup _ _ hn h
  | s :: t :: l, hn, h =>
    rw [dif_neg (by simp at hn; omega)]
    exact Rep.tup _ _ hn h

/-- **A function.** -/
theorem fn_ok_at {P : Program} {f : FuncId} {fn : Func} {c : Code} {rs : List Operand} {args : List SV} {r : SV} (hf : P.funcs[f]? = some fn) (hb : fn.body = some c) (hrs : resOps fn.results.toList = some rs) (hn : args.length ≤ fn.ntmps)
    (w : World) (O : Nat → Prop) (h : Ok { P := P, w0 := w, O := O, M := fun _ => False, inn := fun _ => none, n := fn.ntmps } c ⟨args.zipIdx.map fun p => (p.2, .sv p.1), []⟩ (endQ rs fun l => tupSV l = r)) (vs : Array Value) (hO : ∀ b, O b → b < w.heap.size) (hvs : vs.size = args.length)
    (hrep : ∀ (i : Nat) (s : SV) (u : Value), args[i]? = some s → vs[i]? = some u → Rep w O s u) : Calls P f vs w fun e w' => ∃ v, e = .returned v ∧ Ext w w' ∧ Rep w' O r v := by
  refine calls_of_wp hf hb ?_
  let Γ : Ctx := { P := P, w0 := w, O := O, M := fun _ => False, inn := fun _ => none, n := fn.ntmps }
  have hlk : ∀ (l : List SV) (k t : Nat) (lv : LV), ((l.zipIdx k).map fun p => (p.2, LV.sv p.1)).lookup t = some lv → ∃ s, l[t - k]? = some s ∧ lv = .sv s ∧ k ≤ t := by
    intro l
    induction l with
    | nil => intro k t lv h; simp at h
    | cons s l ih =>
      intro k t lv h
      simp only [List.zipIdx_cons, List.map_cons, List.lookup_cons] at h
      by_cases ht : t = k
      · subst ht; simp at h; exact ⟨s, by simp, h.symm, Nat.le_refl _⟩
      · have : (t == k) = false := by simpa using ht
        simp only [this] at h
        obtain ⟨s', h1, h2, h3⟩ := ih (k + 1) t lv h
        refine ⟨s', ?_, h2, by omega⟩
        rw [show t - k = (t - (k + 1)) + 1 by omega]; simpa using h1
  have I : Inv Γ ⟨args.zipIdx.map fun p => (p.2, .sv p.1), []⟩ { tmps := vs ++ Array.replicate (fn.ntmps - vs.size) undef, defers := [] } w := by
    refine ⟨fun _ => undef, ⟨rfl, by simp [Γ]; omega, ⟨rfl, rfl, rfl, Nat.le_refl _, fun _ _ _ => rfl⟩, ?_, ?_, ?_, ?_, fun b hb => ⟨hO b hb, fun h => h⟩, ?_⟩⟩
    · intro t lv ht
      obtain ⟨s, h1, rfl, _⟩ := hlk args 0 t lv ht
      have hlt : t < vs.size := by rw [hvs]; simpa using (List.getElem?_eq_some_iff.1 h1).1
      have hu : vs[t]? = some vs[t] := Array.getElem?_eq_getElem hlt
      have h2 := hrep t s _ (by simpa using h1) hu
      have h3 : (vs ++ Array.replicate (fn.ntmps - vs.size) undef).getD t undef = vs[t] := by
        rw [Array.getD_eq_getD_getElem?, Array.getElem?_append_left hlt, hu]; rfl
      show Rep w _ s _
      rw [h3]
      exact Rep.kp h2 fun b _ hno => ⟨rfl, fun h => by
        rcases h with h | ⟨k, e, hk, _⟩
        · exact hno h
        · simp at hk⟩
    · intro k e hk; simp at hk
    · intro k e b hk; simp at hk
    · intro k k' e e' b hk; simp at hk
    · intro k v hv; simp [Γ] at hv
  refine wp_mono (h _ w I) ?_
  rintro e a' w' ⟨σ', hq, ρ, J⟩
  have fin : (∃ l, lends σ'.h (rs.map σ'.ev) = some l ∧ tupSV l = r) → a'.defers = [] ∧ ∃ v, (results fn a'.tmps).run P w' = .ok v w' ∧ ∃ v', Ending.returned v = .returned v' ∧ Ext w w' ∧ Rep w' O r v' := by
    rintro ⟨l, hl, rfl⟩
    obtain ⟨vs', hv1, hv2⟩ := run_results hrs a' P w'
    obtain ⟨hl1, hl2⟩ := lends_spec hl
    refine ⟨J.dfr, _, hv2, _, rfl, ?_, tup_rep ?_ ?_⟩
    · exact ⟨J.frm.os, J.frm.tape, J.frm.output, J.frm.size, fun b hb => J.frm.block b hb (fun h => h)⟩
    · have := congrArg List.length hv1; simp at this; simp at hl1; omega
    · intro i s u hi hu
      obtain ⟨lv, h1, h2⟩ := hl2 i s hi
      have hu' : vs'.toList[i]? = some u := by simpa using hu
      rw [hv1] at hu'
      rw [List.getElem?_map] at h1 hu'
      cases hx : rs[i]? with
      | none => simp [hx] at h1
      | some x =>
        simp only [hx, Option.map_some, Option.some.injEq] at h1 hu'
        subst h1 hu'
        exact lend_rep J (J.ev x) h2
  cases e with
  | normal => exact fin hq
  | ret => exact fin hq
  | _ => exact hq.elim
end
end Go.Abs
