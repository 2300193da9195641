/- What single operations do to a frame of plain values: those that touch no memory. No condition. -/
import Derived.Test.YtlokejcoikddgaaAbs
import Derived.Laws.Strings
import Derived.Laws.Concat
import Derived.Laws.Small
namespace Go.Abs
open Go Go.RowKit Go.Eager

def aggOf (P : Program) (t : TypeId) : Option Bool := (P.underlying t).map fun | .struct _ | .array _ _ => true | _ => false
def szOf (P : Program) (t : TypeId) : Option Nat := (P.info? t).map (·.size)
def elOf (P : Program) (t : TypeId) : Option (Nat × Nat) := match P.underlying t with | some (.slice e) => (szOf P e).map fun n => (e, n) | _ => none
def fdOf (P : Program) (s : TypeId) (f : Nat) : Option (Nat × Nat × Bool) :=
  match P.underlying s with
  | some (.struct fs) => match fs[f]? with
    | some x => match szOf P x.type, aggOf P x.type with | some n, some g => some (x.offset, n, g) | _, _ => none
    | none => none
  | _ => none
def strOf (P : Program) (t : TypeId) : Bool := match P.underlying t with | some .string => true | _ => false
def inkOf (P : Program) (t : TypeId) : Option IntKind := match P.underlying t with | some (.int k) => some k | _ => none

theorem run_isAgg {P : Program} {t : TypeId} {b : Bool} (h : aggOf P t = some b) (w : World) : (isAgg t).run P w = .ok b w := by
  unfold aggOf at h
  cases hu : P.underlying t with
  | none => simp [hu] at h
  | some d =>
    simp only [hu, Option.map_some, Option.some.injEq] at h
    subst h
    unfold isAgg
    cases d <;> simp [run_underlying hu]

theorem run_sizeOf {P : Program} {t : TypeId} {n : Nat} (h : szOf P t = some n) (w : World) : (sizeOf t).run P w = .ok n w := by
  unfold szOf at h
  cases hi : P.info? t with
  | none => simp [hi] at h
  | some i => simp [hi] at h; subst h; simp [sizeOf, typeInfo, hi]

theorem oneCell_cells {v : Value} (h : v.oneCell' = true) : v.cells = #[v] := by cases v <;> simp [Value.oneCell'] at h <;> rfl

def SV.one : SV → Bool
  | .raw v => v.oneCell'
  | .agg _ | .tup _ => false
  | .tr _ s _ => match s with | .sl _ _ => true | _ => false
  | _ => true

theorem Rep.oneCell {w : World} {O : Nat → Prop} {s : SV} {v : Value} (h : Rep w O s v) (h1 : s.one = true) : v.oneCell' = true := by
  cases h with
  | raw v => simpa [SV.one] using h1
  | nil => rfl
  | sl => rfl
  | agg => simp [SV.one] at h1
  | tup => simp [SV.one] at h1
  | ptr => rfl
  | tr Z s v hT hZ => cases hT <;> first | rfl | (simp [SV.one] at h1)
  | clo => rfl

/-- Two values of whole numbers, strings, truths. -/
def vInt (op : BinOp) (k : IntKind) (x y : Int) : Option Value :=
  match op with
  | .add => some (.int k (k.wrap (x + y)))
  | .sub => some (.int k (k.wrap (x - y)))
  | .mul => some (.int k (k.wrap (x * y)))
  | .quo => if y = 0 then none else some (.int k (k.wrap (x.tdiv y)))
  | .rem => if y = 0 then none else some (.int k (x.tmod y))
  | .and => some (.int k (bits .and k x y))
  | .or => some (.int k (bits .or k x y))
  | .xor => some (.int k (bits .xor k x y))
  | .eql => some (.bool (decide (x = y)))
  | .neq => some (.bool (decide (x ≠ y)))
  | .lss => some (.bool (decide (x < y)))
  | .leq => some (.bool (decide (x ≤ y)))
  | .gtr => some (.bool (decide (y < x)))
  | .geq => some (.bool (decide (y ≤ x)))
  | _ => none
def vStr (op : BinOp) (x y : ByteArray) : Option Value :=
  match op with
  | .add => if x.size + y.size ≤ 9223372036854775807 then some (.string (x ++ y)) else none
  | .eql => some (.bool (decide (x.data.toList = y.data.toList)))
  | .neq => some (.bool (!decide (x.data.toList = y.data.toList)))
  | .lss => some (.bool (Op.bytesLess x.data.toList y.data.toList))
  | .leq => some (.bool (Op.bytesLess x.data.toList y.data.toList || decide (x.data.toList = y.data.toList)))
  | .gtr => some (.bool (!(Op.bytesLess x.data.toList y.data.toList || decide (x.data.toList = y.data.toList))))
  | .geq => some (.bool (!Op.bytesLess x.data.toList y.data.toList))
  | _ => none
def vBin (op : BinOp) : Value → Value → Option Value
  | .int k x, .int k' y =>
    match op with
    | .shl => if 0 ≤ y ∧ y ≤ k.bits then some (.int k (k.wrap (x * 2 ^ y.toNat))) else none
    | .shr => if 0 ≤ y ∧ y ≤ k.bits then some (.int k (x / 2 ^ y.toNat)) else none
    | _ => if k = k' then vInt op k x y else none
  | .string x, .string y => vStr op x y
  | _, _ => none
def vUn (op : UnOp) : Value → Option Value
  | .int k n => match op with | .neg => some (.int k (k.wrap (0 - n))) | _ => none
  | .bool b => match op with | .not => some (.bool (!b)) | _ => none
  | _ => none

theorem vUn_run {P : Program} {op : UnOp} {u r : Value} (h : vUn op u = some r) (w : World) : (Op.unary op u).run P w = .ok r w := by
  unfold vUn at h
  cases u <;> simp only [] at h <;> (try cases h)
  · cases op <;> simp at h
    subst h; rfl
  · cases op <;> simp at h
    subst h; simp [Op.unary, Op.intArith]

theorem vBin_run {P : Program} {op : BinOp} {u v r : Value} (h : vBin op u v = some r) (t : TypeId) (x y : Operand) (w : World) :
    (do eqGuard op t x y u v; binOp op t u v : Sem Value).run P w = .ok r w := by
  unfold vBin at h
  cases u <;> cases v <;> simp only [] at h <;> (try cases h)
  · rename_i k a k' b
    by_cases h1 : op = .shl
    · subst h1
      simp only [] at h
      split at h
      · rename_i hb; cases h; simp [eqGuard, binOp, shift_shl k k' a b hb.1 hb.2]
      · cases h
    by_cases h2 : op = .shr
    · subst h2
      simp only [] at h
      split at h
      · rename_i hb; cases h; simp [eqGuard, binOp, shift_shr k k' a b hb.1 hb.2]
      · cases h
    have h3 : (if k = k' then vInt op k a b else none) = some r := by cases op <;> first | exact h | (exact absurd rfl h1) | (exact absurd rfl h2)
    split at h3
    · rename_i hk; subst hk
      unfold vInt at h3
      cases op <;> simp only [] at h3 <;> (try (exact absurd rfl h1)) <;> (try (exact absurd rfl h2)) <;> (try cases h3) <;> (try (split at h3 <;> cases h3)) <;>
        (try simp_all [eqGuard, binOp, Op.intArith, Op.intDiv, Op.intCmp, Op.intBits, bits]) <;> (try rfl)
      all_goals (first | (rw [Bool.beq_eq_decide_eq]) | (exact bne_eq_decide _ _) | skip)
    · cases h3
  · rename_i a b
    unfold vStr at h
    cases op <;> simp only [] at h <;> (try cases h)
    · split at h
      · rename_i hs; cases h
        have := run_string_add_sum (P := P) w a b hs
        simp [eqGuard, binOp, this]
      · cases h
    all_goals
      have he : (a.data.toList == b.data.toList) = decide (a.data.toList = b.data.toList) := by rw [Bool.eq_iff_iff]; simp
      simp only [eqGuard, binOp, Op.stringOp, ByteArray.toList_eq, he]
      first | rfl | simp

/-- Truth values are set side by side at a type of truth values. -/
def vBinP (P : Program) (t : TypeId) (op : BinOp) (u v : Value) : Option Value :=
  match u, v with
  | .bool x, .bool y => (match P.underlying t with | some .bool => (match op with | .eql => some (.bool (x == y)) | .neq => some (.bool (x != y)) | _ => none) | _ => none)
  | _, _ => vBin op u v
theorem vBinP_of {P : Program} {t : TypeId} {op : BinOp} {u v r : Value} (h : vBin op u v = some r) : vBinP P t op u v = some r := by
  unfold vBinP
  split
  · simp [vBin] at h
  · exact h
theorem vBinP_run {P : Program} {op : BinOp} {u v r : Value} {t : TypeId} (h : vBinP P t op u v = some r) (x y : Operand) (w : World) :
    (do eqGuard op t x y u v; binOp op t u v : Sem Value).run P w = .ok r w := by
  unfold vBinP at h
  split at h
  · rename_i a b
    split at h
    · rename_i hu
      have e : (Op.equal t (.bool a) (.bool b)).run P w = .ok (a == b) w := by
        unfold Op.equal Op.maxDepth
        exact run_equalIn_bool w _ t a b hu
      cases op <;> simp only [] at h <;> (try cases h) <;> simp [eqGuard, binOp, e]
      cases a <;> cases b <;> rfl
    · cases h
  · exact vBin_run h t x y w

/-- The operations that touch no memory, and what the slot holds then. -/
def stepP (P : Program) (σ : St) (op : Op) (K : LV → Prop) : Prop :=
  match op with
  | .move x | .assign x => K (σ.ev x)
  | .binOp b bt x y _ =>
    match σ.ev x, σ.ev y with
    | .sv (.raw u), .sv (.raw v) => ∃ r, vBinP P bt b u v = some r ∧ K (.sv (.raw r))
    | _, _ => False
  | .unOp b _ x =>
    match σ.ev x with
    | .sv (.raw u) => ∃ r, vUn b u = some r ∧ K (.sv (.raw r))
    | _ => False
  | .pick c a b =>
    match σ.ev c with
    | .sv (.raw (.bool t)) => (t = true → K (σ.ev a)) ∧ (t = false → K (σ.ev b))
    | _ => False
  | .nilCheck x =>
    match σ.ev x with
    | .sv (.ptr p) => K (.sv (.ptr p))
    | .ptr k j => K (.ptr k j)
    | .eptr k n i j => K (.eptr k n i j)
    | _ => False
  | .extract x i =>
    match σ.ev x with
    | .sv (.tup l) => ∃ p, l[i]? = some p ∧ K (.sv p)
    | _ => False
  | .fieldAddr s x f =>
    match σ.ev x with
    | .sv (.ptr (.agg l)) => ∃ r, fdOf P s f = some r ∧ 0 < r.2.1 ∧
        (r.2.2 = false → ∃ p, l[r.1]? = some p ∧ K (.sv (.ptr p))) ∧ (r.2.2 = true → r.1 + r.2.1 ≤ l.length ∧ K (.sv (.ptr (.agg ((l.drop r.1).take r.2.1)))))
    | .ptr k j => ∃ r, fdOf P s f = some r ∧ 0 < r.2.1 ∧ K (.ptr k (j + r.1))
    | .eptr k n i j => ∃ r, fdOf P s f = some r ∧ 0 < r.2.1 ∧ K (.eptr k n i (j + r.1))
    | _ => False
  | .field s x f =>
    match σ.ev x with
    | .sv (.agg l) => ∃ r, fdOf P s f = some r ∧
        (r.2.2 = false → ∃ p, l[r.1]? = some p ∧ K (.sv p)) ∧ (r.2.2 = true → r.1 + r.2.1 ≤ l.length ∧ K (.sv (.agg ((l.drop r.1).take r.2.1))))
    | _ => False
  | .indexAddr t x ix =>
    match σ.ev x, σ.ev ix with
    | .sv (.sl sz l), .sv (.raw (.int _ i)) => ∃ r, elOf P t = some r ∧ r.2 = sz ∧ 0 ≤ i ∧ ∃ p, l[i.toNat]? = some p ∧ K (.sv (.ptr p))
    | .own k, .sv (.raw (.int _ i)) => ∃ r, elOf P t = some r ∧ ∃ T l, σ.h.lookup k = some (.row r.2 T l) ∧ 0 ≤ i ∧ i.toNat < l.length ∧ K (.eptr k r.2 i.toNat 0)
    | _, _ => False
  | .index t x ix =>
    match σ.ev x, σ.ev ix with
    | .sv (.raw (.string s)), .sv (.raw (.int _ i)) => strOf P t = true ∧ 0 ≤ i ∧ ∃ b, s[i.toNat]? = some b ∧ K (.sv (.raw (.int .u8 b.toNat)))
    | _, _ => False
  | .slice t x lo hi none =>
    match σ.ev x with
    | .sv (.raw (.string s)) => strOf P t = true ∧ ∃ l h : Int, ((lo = none ∧ l = 0) ∨ ∃ o k, lo = some o ∧ σ.ev o = .sv (.raw (.int k l))) ∧
        ((hi = none ∧ h = s.size) ∨ ∃ o k, hi = some o ∧ σ.ev o = .sv (.raw (.int k h))) ∧ 0 ≤ l ∧ l ≤ h ∧ h ≤ s.size ∧ K (.sv (.raw (.string (s.extract l.toNat h.toNat))))
    | .sv (.sl sz r) => ∃ e, elOf P t = some e ∧ e.2 = sz ∧ ∃ l h : Int, ((lo = none ∧ l = 0) ∨ ∃ o k, lo = some o ∧ σ.ev o = .sv (.raw (.int k l))) ∧
        ((hi = none ∧ h = r.length) ∨ ∃ o k, hi = some o ∧ σ.ev o = .sv (.raw (.int k h))) ∧ 0 ≤ l ∧ l ≤ h ∧ h ≤ r.length ∧ K (.sv (.sl sz ((r.drop l.toNat).take (h - l).toNat)))
    | _ => False
  | .convert s d x =>
    match σ.ev x with
    | .sv (.raw (.int _ n)) => (aggOf P s).isSome = true ∧ ∃ k, inkOf P d = some k ∧ K (.sv (.raw (.int k (k.wrap n))))
    | .sv (.raw (.string b)) => strOf P s = true ∧ strOf P d = true ∧ K (.sv (.raw (.string b)))
    | _ => False
  | .call { callee := .builtin .len, args, argTypes } =>
    match args.toList, argTypes.toList with
    | [x], [t] =>
      match σ.ev x with
      | .sv (.raw (.string s)) => strOf P t = true ∧ K (.sv (.raw (.int .i64 s.size)))
      | .sv (.sl _ l) => (elOf P t).isSome = true ∧ K (.sv (.raw (.int .i64 l.length)))
      | .sv (.raw (.slice _ n _)) => (elOf P t).isSome = true ∧ K (.sv (.raw (.int .i64 n)))
      | .own k => (elOf P t).isSome = true ∧ ∃ sz T l, σ.h.lookup k = some (.row sz T l) ∧ K (.sv (.raw (.int .i64 l.length)))
      | _ => False
    | _, _ => False
  | .call { callee := .builtin .min, args, argTypes := _ } =>
    match args.toList with
    | [x, y] => match σ.ev x, σ.ev y with
      | .sv (.raw (.int k a)), .sv (.raw (.int _ b)) => K (.sv (.raw (.int k (if b < a then b else a))))
      | _, _ => False
    | _ => False
  | .call { callee := .builtin .max, args, argTypes := _ } =>
    match args.toList with
    | [x, y] => match σ.ev x, σ.ev y with
      | .sv (.raw (.int k a)), .sv (.raw (.int _ b)) => K (.sv (.raw (.int k (if b > a then b else a))))
      | _, _ => False
    | _ => False
  | _ => False

end Go.Abs
