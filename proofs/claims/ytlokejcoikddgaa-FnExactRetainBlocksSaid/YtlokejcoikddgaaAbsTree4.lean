/- Copies and marks of all kinds: what is alike in them. No condition. -/
import Derived.Test.YtlokejcoikddgaaAbsTree3
import Derived.Test.YtlokejcoikddgaaBase
namespace Go.Abs
open Go Go.RowKit Go.Eager Go.Ring
set_option linter.unusedVariables false
set_option linter.unusedSimpArgs false
def isRaw : SV → Bool
  | .raw _ => true
  | _ => false
theorem isRaw_inv {s : SV} (h : isRaw s = true) : ∃ u, s = .raw u := by cases s <;> first | exact ⟨_, rfl⟩ | cases h
def flatV : SV → Bool
  | .raw _ => true
  | .agg l => l.all isRaw
  | _ => false
theorem flat_zn {s : SV} (h : flatV s = true) {b : Nat} : ¬ Zn b s := by
  intro hb
  cases hb with
  | tr => cases h
  | agg l s hs hb =>
    obtain ⟨u, rfl⟩ := isRaw_inv (List.all_eq_true.1 h s hs)
    exact zn_raw hb
theorem flat_gd {s : SV} (h : flatV s = true) : Gd s s := by
  match s, h with
  | .raw u, _ => exact .raw u
  | .agg l, h =>
    have hx : ∀ {i : Nat} {r : SV}, l[i]? = some r → ∃ u, r = .raw u := fun hi => isRaw_inv (List.all_eq_true.1 h _ (List.mem_of_getElem? hi))
    refine .agg l l rfl (fun i r s hr hs => ?_) (fun i j b ri rj hi hj hbi hbj => ?_)
    · obtain ⟨u, rfl⟩ := hx hr
      rw [hr] at hs
      cases hs
      exact .raw u
    · obtain ⟨u, rfl⟩ := hx hi
      exact (zn_raw hbi).elim
theorem flat_eq {r s : SV} (h : flatV s = true) (g : Gd r s) : r = s := by
  cases g with
  | raw => rfl
  | tr => cases h
  | agg rs ss hn hh hap =>
    congr 1
    apply List.ext_getElem?
    intro i
    rcases Nat.lt_or_ge i rs.length with h1 | h1
    · obtain ⟨r, hr⟩ := sget h1
      obtain ⟨s, hs⟩ := sget (l := ss) (i := i) (by omega)
      obtain ⟨u, rfl⟩ := isRaw_inv (List.all_eq_true.1 h s (smem hs))
      have := hh i r _ hr hs
      cases this
      rw [hr, hs]
    · rw [List.getElem?_eq_none h1, List.getElem?_eq_none (by omega)]
/-- A row of plain elements. -/
theorem gd_flatL {rs : List SV} (h : ∀ r ∈ rs, flatV r = true) : (∀ (i : Nat) (r s : SV), rs[i]? = some r → rs[i]? = some s → Gd r s) ∧ (∀ (i j b : Nat) (ri rj : SV), rs[i]? = some ri → rs[j]? = some rj → Zn b ri → Zn b rj → i = j) ∧ ∀ r ∈ rs, ∀ b, ¬ Zn b r := by
  refine ⟨fun i r s h1 h2 => ?_, fun i j b ri rj h1 h2 h3 => (flat_zn (h ri (smem h1)) h3).elim, fun r hr b => flat_zn (h r hr)⟩
  rw [h1] at h2
  cases h2
  exact flat_gd (h r (smem h1))
theorem PFnR.toP {P : Program} {f : FuncId} {args : List SV} {s : SV} (h : PFnT P f args s) : PFn P f args s := by
  intro w O vs hO hsz hrep
  refine (h w O vs hO hsz hrep).mono ?_
  rintro e w' ⟨v, r, he, hx, hr, _, hv⟩
  exact ⟨v, he, hx, hr.rep hv⟩
def GL : List SV → List SV → Prop
  | [], [] => True
  | r :: rs, s :: ss => Gd r s ∧ GL rs ss
  | _, _ => False
def AL : List SV → Prop
  | [] => True
  | r :: rs => (∀ b, Zn b r → ∀ x ∈ rs, ¬ Zn b x) ∧ AL rs
theorem GL.len : ∀ {rs ss : List SV}, GL rs ss → rs.length = ss.length
  | [], [], _ => rfl
  | [], _ :: _, h => h.elim
  | _ :: _, [], h => h.elim
  | _ :: rs, _ :: ss, h => by simp [GL.len h.2]
theorem GL.get : ∀ {rs ss : List SV} {i : Nat} {r s : SV}, GL rs ss → rs[i]? = some r → ss[i]? = some s → Gd r s
  | [], _, _, _, _, _, h, _ => by simp at h
  | _ :: _, [], _, _, _, h, _, _ => h.elim
  | _ :: _, _ :: _, 0, _, _, h, h1, h2 => by simp at h1 h2; subst h1 h2; exact h.1
  | _ :: _, _ :: _, i + 1, _, _, h, h1, h2 => GL.get h.2 (by simpa using h1) (by simpa using h2)
theorem AL.sep : ∀ {rs : List SV} {i j b : Nat} {ri rj : SV}, AL rs → rs[i]? = some ri → rs[j]? = some rj → Zn b ri → Zn b rj → i = j
  | [], _, _, _, _, _, _, h, _, _, _ => by simp at h
  | _ :: _, 0, 0, _, _, _, _, _, _, _, _ => rfl
  | r :: rs, 0, j + 1, b, ri, rj, h, h1, h2, h3, h4 => by
    simp at h1 h2; subst h1
    exact (h.1 b h3 rj (smem h2) h4).elim
  | r :: rs, i + 1, 0, b, ri, rj, h, h1, h2, h3, h4 => by
    simp at h1 h2; subst h2
    exact (h.1 b h4 ri (smem h1) h3).elim
  | r :: rs, i + 1, j + 1, b, ri, rj, h, h1, h2, h3, h4 => by
    have := AL.sep h.2 (i := i) (j := j) (by simpa using h1) (by simpa using h2) h3 h4
    omega
theorem gd_agg {rs ss : List SV} (h : GL rs ss) (a : AL rs) : Gd (.agg rs) (.agg ss) := .agg rs ss h.len (fun i r s hr hs => h.get hr hs) (fun i j b ri rj => a.sep)
theorem GL.of : ∀ {rs ss : List SV}, rs.length = ss.length → (∀ (i : Nat) (r s : SV), rs[i]? = some r → ss[i]? = some s → Gd r s) → GL rs ss
  | [], [], _, _ => trivial
  | [], _ :: _, h, _ => by simp at h
  | _ :: _, [], h, _ => by simp at h
  | r :: rs, s :: ss, h, hh => ⟨hh 0 r s rfl rfl, GL.of (by simpa using h) fun i r s hr hs => hh (i + 1) r s (by simpa using hr) (by simpa using hs)⟩
theorem AL.of : ∀ {rs : List SV}, (∀ (i j b : Nat) (ri rj : SV), rs[i]? = some ri → rs[j]? = some rj → Zn b ri → Zn b rj → i = j) → AL rs
  | [], _ => trivial
  | r :: rs, h => ⟨fun b hb x hx hb' => by
      obtain ⟨j, hj⟩ := List.getElem?_of_mem hx
      have := h 0 (j + 1) b r x rfl (by simpa using hj) hb hb'
      omega, AL.of fun i j b ri rj hi hj hbi hbj => by
      have := h (i + 1) (j + 1) b ri rj (by simpa using hi) (by simpa using hj) hbi hbj
      omega⟩
theorem gd_agg_inv {r : SV} {ss : List SV} (h : Gd r (.agg ss)) : ∃ rs, r = .agg rs ∧ GL rs ss ∧ AL rs := by
  generalize hs : SV.agg ss = s at h
  cases h with
  | raw => cases hs
  | tr => cases hs
  | agg rs ss' hn hh hap =>
    injection hs with hs
    subst hs
    exact ⟨rs, rfl, GL.of hn hh, AL.of hap⟩
theorem gd_raw_inv {r : SV} {u : Value} (h : Gd r (.raw u)) : r = .raw u := by cases h; rfl
theorem gd_sl_inv {r : SV} {n : Nat} {l : List SV} (h : Gd r (.sl n l)) : ∃ Z v, r = .tr Z (.sl n l) v := by cases h; exact ⟨_, _, rfl⟩
theorem GL.inv_nil {rs : List SV} (h : GL rs []) : rs = [] := by cases rs with | nil => rfl | cons => exact h.elim
theorem GL.inv_cons {rs : List SV} {s : SV} {ss : List SV} (h : GL rs (s :: ss)) : ∃ r rs', rs = r :: rs' ∧ Gd r s ∧ GL rs' ss := by
  cases rs with | nil => exact h.elim | cons r rs => exact ⟨r, rs, rfl, h.1, h.2⟩
theorem znA_nil {b : Nat} : Zn b (.agg []) ↔ False := ⟨fun h => (by obtain ⟨s, hs, _⟩ := zn_agg h; simp at hs), False.elim⟩
theorem znA_cons {b : Nat} {s : SV} {l : List SV} : Zn b (.agg (s :: l)) ↔ Zn b s ∨ Zn b (.agg l) := by
  constructor
  · intro h
    obtain ⟨x, hx, hb⟩ := zn_agg h
    rcases List.mem_cons.1 hx with rfl | hx
    · exact .inl hb
    · exact .inr (.agg _ x hx hb)
  · rintro (h | h)
    · exact .agg _ s (List.mem_cons_self ..) h
    · obtain ⟨x, hx, hb⟩ := zn_agg h
      exact .agg _ x (List.mem_cons_of_mem _ hx) hb
theorem znI_raw {b : Nat} {u : Value} : Zn b (.raw u) ↔ False := ⟨zn_raw, False.elim⟩
theorem znI_tr {b : Nat} {Z : Nat → Prop} {s : SV} {v : Value} : Zn b (.tr Z s v) ↔ Z b := ⟨zn_tr, .tr Z s v⟩
theorem mem0 {x : SV} : x ∈ ([] : List SV) ↔ False := by simp
theorem AL_raw {u : Value} {l : List SV} (h : AL l) : AL (.raw u :: l) := ⟨fun b hb => (zn_raw hb).elim, h⟩
theorem AL_tr {Z : Nat → Prop} {s : SV} {v : Value} {l : List SV} (hd : ∀ b, Z b → ¬ Zn b (.agg l)) (h : AL l) : AL (.tr Z s v :: l) := ⟨fun b hb x hx hx' => hd b (zn_tr hb) (.agg l x hx hx'), h⟩
def MkCL (Zj : Nat → Prop) (s s' : SV) (v : Value) : List LV → List LV → Prop
  | [], [] => True
  | a :: l, b :: m => MkL Zj s s' v a b ∧ MkCL Zj s s' v l m
  | _, _ => False
theorem MkCL.len {Zj : Nat → Prop} {s s' : SV} {v : Value} : ∀ {l m : List LV}, MkCL Zj s s' v l m → m.length = l.length
  | [], [], _ => rfl
  | [], _ :: _, h => h.elim
  | _ :: _, [], h => h.elim
  | _ :: l, _ :: m, h => by simp [MkCL.len h.2]
theorem MkCL.get {Zj : Nat → Prop} {s s' : SV} {v : Value} : ∀ {l m : List LV} {i : Nat} {x x' : LV}, MkCL Zj s s' v l m → l[i]? = some x → m[i]? = some x' → MkL Zj s s' v x x'
  | [], _, _, _, _, _, h, _ => by simp at h
  | _ :: _, [], _, _, _, h, _, _ => h.elim
  | _ :: _, _ :: _, 0, _, _, h, h1, h2 => by simp at h1 h2; subst h1 h2; exact h.1
  | _ :: _, _ :: _, i + 1, _, _, h, h1, h2 => MkCL.get h.2 (by simpa using h1) (by simpa using h2)
theorem mk_box {Zj : Nat → Prop} {s s' : SV} {v : Value} {l m : List LV} (h : MkCL Zj s s' v l m) : MkE Zj s s' v (.box l) (.box m) := .box h.len fun i x x' => h.get
def cOne {α : Type} (_ : α) : Nat := 1
def hInt (x : Int) (k : Nat) : Prop := x = (k : Int)
/-- The marks of a row: each element's, one behind the other. -/
def cL {α : Type} (c : α → Nat) : List α → Nat
  | [] => 0
  | x :: l => c x + cL c l
theorem cL_append {α : Type} (c : α → Nat) : ∀ (a b : List α), cL c (a ++ b) = cL c a + cL c b
  | [], b => by simp [cL]
  | x :: a, b => by simp [cL, cL_append c a b]; omega
theorem cL_snoc {α : Type} (c : α → Nat) (a : List α) (x : α) : cL c (a ++ [x]) = cL c a + c x := by rw [cL_append]; simp [cL]
theorem cL_const {α : Type} {c : α → Nat} {m : Nat} (hc : ∀ x, c x = m) : ∀ l : List α, cL c l = l.length * m
  | [] => by simp [cL]
  | x :: l => by simp [cL, hc, cL_const hc l, Nat.add_mul]; omega
def HL {α : Type} (c : α → Nat) (h : α → Nat → Prop) : List α → Nat → Prop
  | [], _ => True
  | x :: l, k => h x k ∧ HL c h l (k + c x)
theorem HL_snoc {α : Type} {c : α → Nat} {h : α → Nat → Prop} : ∀ {l : List α} {k : Nat} {x : α}, HL c h l k → h x (k + cL c l) → HL c h (l ++ [x]) k
  | [], k, x, _, hx => ⟨hx, trivial⟩
  | y :: l, k, x, hl, hx => ⟨hl.1, HL_snoc hl.2 (by rw [cL, ← Nat.add_assoc] at hx; exact hx)⟩
/-- A row of good copies, in Z, apart. -/
structure ShG (Z : Nat → Prop) {α : Type} (e : α → SV) (rs : List SV) (xs : List α) : Prop where
  len : rs.length = xs.length
  ap : ∀ (i j b : Nat) (ri rj : SV), rs[i]? = some ri → rs[j]? = some rj → Zn b ri → Zn b rj → i = j
  zn : ∀ r ∈ rs, ∀ b, Zn b r → Z b
  gd : ∀ (j : Nat) (r : SV) (x : α), rs[j]? = some r → xs[j]? = some x → Gd r (e x)
theorem set_getG {α : Type} {rs : List α} {i j : Nat} {x r : α} (h : (rs.set i x)[j]? = some r) : (j = i ∧ r = x) ∨ (j ≠ i ∧ rs[j]? = some r) := by
  rw [List.getElem?_set] at h
  by_cases hij : i = j
  · subst hij
    rw [if_pos rfl] at h
    split at h
    · exact .inl ⟨rfl, by cases h; rfl⟩
    · cases h
  · rw [if_neg hij] at h; exact .inr ⟨fun e => hij e.symm, h⟩
theorem set_self_getG {α : Type} {rs : List α} {i : Nat} {x y : α} (h : rs[i]? = some y) : (rs.set i x)[i]? = some x := by
  rw [List.getElem?_set, if_pos rfl, if_pos (slt h)]
section
variable {Z : Nat → Prop} {α : Type} {e : α → SV} {rs : List SV}
theorem ShG.set {d t : List α} {u u' : α} {r r' : SV} (h : ShG Z e rs (d ++ u :: t)) (hr : rs[d.length]? = some r) (hg : Gd r' (e u')) (hz : ∀ b, Zn b r' → Zn b r) : ShG Z e (rs.set d.length r') (d ++ u' :: t) := by
  have hx : ∀ {j : Nat} {q : SV} {b : Nat}, (rs.set d.length r')[j]? = some q → Zn b q → ∃ q', rs[j]? = some q' ∧ Zn b q' := by
    intro j q b hj hb
    rcases set_getG hj with ⟨rfl, rfl⟩ | ⟨_, h2⟩
    · exact ⟨_, hr, hz b hb⟩
    · exact ⟨_, h2, hb⟩
  refine ⟨by simpa using h.len, fun a c b ra rc ha hc hba hbc => ?_, fun q hq b hb => ?_, fun j q x hj hxj => ?_⟩
  · obtain ⟨x, h1, h2⟩ := hx ha hba
    obtain ⟨y, h3, h4⟩ := hx hc hbc
    exact h.ap a c b x y h1 h3 h2 h4
  · obtain ⟨j, hj⟩ := List.getElem?_of_mem hq
    obtain ⟨x, h1, h2⟩ := hx hj hb
    exact h.zn x (smem h1) b h2
  · rcases set_getG hj with ⟨rfl, rfl⟩ | ⟨hne, h2⟩
    · rw [List.getElem?_append_right (Nat.le_refl _), Nat.sub_self] at hxj
      simp at hxj; subst hxj; exact hg
    · refine h.gd j q x h2 ?_
      rcases Nat.lt_or_ge j d.length with h1 | h1
      · rw [List.getElem?_append_left h1] at hxj ⊢; exact hxj
      · rw [List.getElem?_append_right h1] at hxj ⊢
        rw [show j - d.length = (j - d.length - 1) + 1 by omega] at hxj ⊢
        simpa using hxj
theorem ShG.here {d t : List α} {u : α} (h : ShG Z e rs (d ++ u :: t)) : ∃ r, rs[d.length]? = some r ∧ Gd r (e u) := by
  have hl := h.len
  obtain ⟨r, hr⟩ := sget (l := rs) (i := d.length) (by rw [hl]; simp)
  exact ⟨r, hr, h.gd _ _ _ hr (by rw [List.getElem?_append_right (Nat.le_refl _), Nat.sub_self]; rfl)⟩
theorem mk_otherG {Zj : Nat → Prop} {s s' r q : SV} {v : Value} (g : Gd r q) (hd : ∀ b, Zn b r → ¬ Zj b) : Mk Zj s s' v r r := by
  induction g with
  | raw u => exact .raw u
  | tr Z n l u => exact .other Z _ u fun b hb => hd b (.tr Z _ u hb)
  | agg rs ss hn hh hap ih =>
    refine .agg rs rs rfl fun i x x' hx hx' => ?_
    rw [hx] at hx'
    cases hx'
    obtain ⟨y, hy⟩ := sget (l := ss) (i := i) (by have := slt hx; omega)
    exact ih i x y hx hy fun b hb => hd b (.agg rs x (smem hx) hb)
def MkAL (Zj : Nat → Prop) (s s' : SV) (v : Value) : List SV → List SV → Prop
  | [], [] => True
  | a :: l, b :: m => Mk Zj s s' v a b ∧ MkAL Zj s s' v l m
  | _, _ => False
theorem MkAL.len {Zj : Nat → Prop} {s s' : SV} {v : Value} : ∀ {l m : List SV}, MkAL Zj s s' v l m → m.length = l.length
  | [], [], _ => rfl
  | [], _ :: _, h => h.elim
  | _ :: _, [], h => h.elim
  | _ :: l, _ :: m, h => by simp [MkAL.len h.2]
theorem MkAL.get {Zj : Nat → Prop} {s s' : SV} {v : Value} : ∀ {l m : List SV} {i : Nat} {x x' : SV}, MkAL Zj s s' v l m → l[i]? = some x → m[i]? = some x' → Mk Zj s s' v x x'
  | [], _, _, _, _, _, h, _ => by simp at h
  | _ :: _, [], _, _, _, h, _, _ => h.elim
  | _ :: _, _ :: _, 0, _, _, h, h1, h2 => by simp at h1 h2; subst h1 h2; exact h.1
  | _ :: _, _ :: _, i + 1, _, _, h, h1, h2 => MkAL.get h.2 (by simpa using h1) (by simpa using h2)
theorem mk_aggL {Zj : Nat → Prop} {s s' : SV} {v : Value} {l m : List SV} (h : MkAL Zj s s' v l m) : Mk Zj s s' v (.agg l) (.agg m) := .agg l m h.len fun i x x' => h.get
theorem mk_rowG {d t : List α} {u : α} {r r' : SV} {n T : Nat} {Zj : Nat → Prop} {s s' : SV} {v : Value} (h : ShG Z e rs (d ++ u :: t)) (hr : rs[d.length]? = some r) (hz : ∀ b, Zj b → Zn b r) (m : Mk Zj s s' v r r') : MkE Zj s s' v (.row n T rs) (.row n T (rs.set d.length r')) := by
  refine .row (by simp) fun j x x' hx hx' => ?_
  rcases set_getG hx' with ⟨rfl, rfl⟩ | ⟨hne, h2⟩
  · rw [hr] at hx
    cases hx
    exact m
  · rw [hx] at h2
    cases h2
    obtain ⟨y, hy⟩ := sget (l := d ++ u :: t) (i := j) (by have := slt hx; rw [h.len] at this; exact this)
    exact mk_otherG (h.gd j x y hx hy) fun b hb hb' => hne (h.ap j d.length b _ _ hx hr hb (hz b hb'))
end
def vof : SV → Value
  | .raw u => u
  | .tr _ _ v => v
  | _ => undef
def rt : SV → Bool
  | .raw _ => true
  | .tr _ _ _ => true
  | _ => false
theorem vof_eq {w : World} {O : Nat → Prop} {r : SV} {v : Value} (h : Rep w O r v) (hr : rt r = true) : v = vof r := by
  cases h <;> first | rfl | cases hr
/-- The end of a function that writes into what its first argument, a struct, holds. -/
def endS (t bx : Nat) (Z : Nat → Prop) (rs : List SV) (R : Int → SV → Prop) : Exit → St → Prop
  | .normal, σ | .ret, σ => ∃ (k' : Int) (rs' ss' : List SV), σ.ev (.tmp t) = .sv (.raw (.int .i64 k')) ∧ σ.h.lookup bx = some (.box (rs'.map .sv)) ∧ rs'.map vof = rs.map vof ∧ rs'.all rt = true ∧ GL rs' ss' ∧ AL rs' ∧ (∀ b, Zn b (.agg rs') → Z b) ∧ R k' (.agg ss')
  | _, _ => False
theorem fns_ok {P : Program} {f : FuncId} {fn : Func} {c : Code} {t bx m : Nat} {ss : List SV} {k : Int} {R : Int → SV → Prop} (hf : P.funcs[f]? = some fn) (hb : fn.body = some c) (hrs : fn.results = #[.tmp t]) (hnt : fn.ntmps = m) (hn : 2 ≤ m)
    (h : ∀ (w0 : World) (Z : Nat → Prop) (rs : List SV), GL rs ss → AL rs → (∀ b, Zn b (.agg rs) → Z b) → rs.all rt = true ∧
      Ok { P := P, w0 := w0, O := fun _ => False, M := Z, inn := fun _ => none, n := m } c ⟨[(0, .sv (.agg rs)), (1, .sv (.raw (.int .i64 k)))], []⟩ (endS t bx Z rs R)) : MarkC P f (.agg ss) k R := by
  intro w Z v hT hZ
  subst hnt
  obtain ⟨r, hg, hzn, hrep⟩ := tree_open (O := fun _ => False) hT (fun b hb => ⟨hZ b hb, fun h => h⟩)
  obtain ⟨rs, rfl, hGL, hAL⟩ := gd_agg_inv hg
  obtain ⟨hrt, hok⟩ := h w Z rs hGL hAL hzn
  refine calls_of_wp hf hb ?_
  let Γ : Ctx := { P := P, w0 := w, O := fun _ => False, M := Z, inn := fun _ => none, n := fn.ntmps }
  have I : Inv Γ ⟨[(0, .sv (.agg rs)), (1, .sv (.raw (.int .i64 k)))], []⟩ { tmps := #[v, .int .i64 k] ++ Array.replicate (fn.ntmps - 2) undef, defers := [] } w := by
    have hno : ∀ d, ¬ Own Γ [] (fun _ => undef) d := by
      rintro d (h | ⟨k', e, hk, _⟩)
      · exact h
      · simp at hk
    refine ⟨fun _ => undef, ⟨rfl, by simp [Γ]; omega, ⟨rfl, rfl, rfl, Nat.le_refl _, fun _ _ _ => rfl⟩, ?_, ?_, ?_, ?_, fun b hb => hb.elim, ?_⟩⟩
    · intro t' lv ht
      rw [List.lookup_cons] at ht
      cases h0 : (t' == 0) with
      | true =>
        have : t' = 0 := by simpa using h0
        subst this
        simp only [h0, Option.some.injEq] at ht
        subst ht
        show Rep w _ _ (Array.getD _ 0 undef)
        rw [Array.getD_eq_getD_getElem?, Array.getElem?_append_left (by simp)]
        show Rep w _ _ v
        exact Rep.kp hrep fun b _ _ => ⟨rfl, hno b⟩
      | false =>
        simp only [h0, List.lookup_cons] at ht
        cases h1 : (t' == 1) with
        | true =>
          have : t' = 1 := by simpa using h1
          subst this
          simp only [h1, Option.some.injEq] at ht
          subst ht
          show Rep w _ _ (Array.getD _ 1 undef)
          rw [Array.getD_eq_getD_getElem?, Array.getElem?_append_left (by simp)]
          exact .raw _
        | false => simp [h1] at ht
    · intro k' e hk; simp at hk
    · intro k' e b hk; simp at hk
    · intro k1 k2 e1 e2 b hk; simp at hk
    · intro k' v hv; simp [Γ] at hv
  refine wp_mono (hok _ w I) ?_
  rintro e a' w' ⟨σ', hq, ρ, J⟩
  have hres : (results fn a'.tmps).run P w' = .ok (a'.tmps.getD t undef) w' := by
    unfold results
    rw [hrs]
    simp
  have fin : (∃ (k' : Int) (rs' ss' : List SV), σ'.ev (.tmp t) = .sv (.raw (.int .i64 k')) ∧ σ'.h.lookup bx = some (.box (rs'.map .sv)) ∧ rs'.map vof = rs.map vof ∧ rs'.all rt = true ∧ GL rs' ss' ∧ AL rs' ∧ (∀ b, Zn b (.agg rs') → Z b) ∧ R k' (.agg ss')) →
      a'.defers = [] ∧ ∃ u, (results fn a'.tmps).run P w' = .ok u w' ∧ ∃ k' s', Ending.returned u = .returned (.int .i64 k') ∧ R k' s' ∧ Chg Z w w' ∧ Tree w' Z s' v := by
    rintro ⟨k', rs', ss', e1, e2, e3, e4, e5, e6, e7, e8⟩
    have hv : a'.tmps.getD t undef = .int .i64 k' := ev_raw J e1
    obtain ⟨b, T, cur, _, _, hs, hc⟩ := J.ent bx _ e2
    have hlen : rs'.length = rs.length := by simpa using congrArg List.length e3
    have hR : Rep w' (Own Γ σ'.h ρ) (.agg rs') v := by
      cases hrep with
      | agg _ vs hn h1 h2 =>
        refine .agg rs' vs (by rw [hn, hlen]) h1 fun i x u hx hu => ?_
        have hlt : i < cur.size := by rw [hs]; simp; exact slt hx
        have h3 := (hc i (.sv x) cur[i] (by rw [List.getElem?_map, hx]; rfl) (Array.getElem?_eq_getElem hlt)).1
        have h4 : Rep w' (Own Γ σ'.h ρ) x cur[i] := h3
        obtain ⟨y, hy⟩ := sget (l := rs) (i := i) (by have := slt hx; omega)
        have h5 := vof_eq h4 (List.all_eq_true.1 e4 x (smem hx))
        have h6 := vof_eq (h2 i y u hy hu) (List.all_eq_true.1 hrt y (smem hy))
        have h7 : vof x = vof y := by
          have := congrArg (fun l => l[i]?) e3
          simp only [List.getElem?_map, hx, hy, Option.map_some, Option.some.injEq] at this
          exact this
        rw [h6, ← h7, ← h5]; exact h4
    exact ⟨J.dfr, _, hres, k', .agg ss', by rw [hv], e8, ⟨J.frm.os, J.frm.tape, J.frm.output, J.frm.size, fun d hd hno => J.frm.block d hd hno⟩, ((gd_agg e5 e6).tree hR).mono e7⟩
  cases e with
  | normal => exact fin hq
  | ret => exact fin hq
  | _ => exact hq.elim
section
variable {Γ : Ctx} {ops : Array Oper} {l : List (Oper × Nat)} {t : List (Nat × LV)} {h : List (Nat × Ent)} {K : St → Prop} {c d ty : Nat} {ps : String} {af : Array Edge} {x y : Operand}
/-- What becomes of a frame when all in Z is written. -/
inductive LsL (Z : Nat → Prop) : LV → LV → Prop
  | raw {u : Value} : LsL Z (.sv (.raw u)) (.sv (.raw u))
  | good {r s : SV} (g : Gd r s) (hd : ∀ b, Zn b r → ¬ Z b) : LsL Z (.sv r) (.sv r)
  | av {Z2 : Nat → Prop} {s : SV} (hs : ∀ b, Z b → Z2 b) : LsL Z (.av Z2 s) (.av Z2 s)
  | own {k : Nat} : LsL Z (.own k) (.own k)
  | ptr {k j : Nat} : LsL Z (.ptr k j) (.ptr k j)
  | dead {lv : LV} : LsL Z lv .dead
def LsT (Z : Nat → Prop) (t : List (Nat × LV)) : List (Nat × LV) → Prop
  | [] => True
  | (k, lv') :: t' => (∃ lv, t.lookup k = some lv ∧ LsL Z lv lv') ∧ LsT Z t t'
def LsC (Z : Nat → Prop) : List LV → List LV → Prop
  | [], [] => True
  | a :: l, b :: m => LsL Z a b ∧ LsC Z l m
  | _, _ => False
inductive LsE (Z : Nat → Prop) : Ent → Ent → Prop
  | box {c c' : List LV} (h : LsC Z c c') : LsE Z (.box c) (.box c')
  | row {n T : Nat} {l : List SV} (h : ∀ r ∈ l, (∃ s, Gd r s) ∧ ∀ b, Zn b r → ¬ Z b) : LsE Z (.row n T l) (.row n T l)
def LsH (Z : Nat → Prop) (h : List (Nat × Ent)) : List (Nat × Ent) → Prop
  | [] => True
  | (k, e') :: h' => (∃ e, h.lookup k = some e ∧ LsE Z e e') ∧ LsH Z h h'
theorem lsT_lookup {Z : Nat → Prop} {k : Nat} {lv' : LV} : ∀ {t' : List (Nat × LV)}, LsT Z t t' → t'.lookup k = some lv' → ∃ lv, t.lookup k = some lv ∧ LsL Z lv lv'
  | [], _, h => by simp at h
  | (a, x) :: t', ⟨hx, ht⟩, h => by
    rw [List.lookup_cons] at h
    cases hk : (k == a) with
    | true =>
      have : k = a := by simpa using hk
      subst this
      simp only [hk, Option.some.injEq] at h
      subst h; exact hx
    | false => simp only [hk] at h; exact lsT_lookup ht h
theorem lsH_lookup {Z : Nat → Prop} {k : Nat} {e' : Ent} : ∀ {h' : List (Nat × Ent)}, LsH Z h h' → h'.lookup k = some e' → ∃ e, h.lookup k = some e ∧ LsE Z e e'
  | [], _, h => by simp at h
  | (a, x) :: t', ⟨hx, ht⟩, h => by
    rw [List.lookup_cons] at h
    cases hk : (k == a) with
    | true =>
      have : k = a := by simpa using hk
      subst this
      simp only [hk, Option.some.injEq] at h
      subst h; exact hx
    | false => simp only [hk] at h; exact lsH_lookup ht h
theorem lsC_get {Z : Nat → Prop} : ∀ {l m : List LV} {i : Nat} {x x' : LV}, LsC Z l m → l[i]? = some x → m[i]? = some x' → LsL Z x x'
  | [], _, _, _, _, _, h, _ => by simp at h
  | _ :: _, [], _, _, _, h, _, _ => h.elim
  | _ :: _, _ :: _, 0, _, _, h, h1, h2 => by simp at h1 h2; subst h1 h2; exact h.1
  | _ :: _, _ :: _, i + 1, _, _, h, h1, h2 => lsC_get h.2 (by simpa using h1) (by simpa using h2)
theorem lsC_len {Z : Nat → Prop} : ∀ {l m : List LV}, LsC Z l m → m.length = l.length
  | [], [], _ => rfl
  | [], _ :: _, h => h.elim
  | _ :: _, [], h => h.elim
  | _ :: l, _ :: m, h => by simp [lsC_len h.2]
end
theorem Gd.keep {w w' : World} {O O' : Nat → Prop} {Z : Nat → Prop} {r s : SV} (hc : Chg Z w w') (g : Gd r s) (hd : ∀ b, Zn b r → ¬ Z b) (hO : ∀ b, b < w.heap.size → ¬ O b → ¬ O' b) : ∀ {v : Value}, Rep w O r v → Rep w' O' r v := by
  induction g with
  | raw u => intro v h; cases h; exact .raw _
  | tr Z2 n l u =>
    intro v h
    cases h with
    | tr _ _ _ h1 h2 => exact .tr Z2 _ _ (h1.keep fun b hb => hc.block b (h2 b hb).1 (hd b (.tr Z2 _ _ hb))) fun b hb => ⟨Nat.lt_of_lt_of_le (h2 b hb).1 hc.size, hO b (h2 b hb).1 (h2 b hb).2⟩
  | agg rs ss hn hh hap ih =>
    intro v h
    cases h with
    | agg _ vs hn' h1 h2 =>
      refine .agg rs vs hn' h1 fun i x y hx hy => ?_
      obtain ⟨q, hq⟩ := sget (l := ss) (i := i) (by have := slt hx; omega)
      exact ih i x q hx hq (fun b hb => hd b (.agg rs x (smem hx) hb)) (h2 i x y hx hy)
section
variable {Γ : Ctx} {σ : St} {ρ : Nat → Value} {a : Act} {w : World}
theorem Iv.less (I : Iv Γ σ ρ a w) {Z : Nat → Prop} {w' : World} {t' : List (Nat × LV)} {h' : List (Nat × Ent)} (hc : Chg Z w w') (hZ : ∀ b, Z b → b < w.heap.size ∧ ¬ Own Γ σ.h ρ b)
    (hM : ∀ b, Z b → Γ.w0.heap.size ≤ b ∨ Γ.M b) (ht : LsT Z σ.t t') (hh : LsH Z σ.h h') : Iv Γ ⟨t', h'⟩ ρ a w' := by
  have hO : ∀ b, ¬ Own Γ σ.h ρ b → ¬ Own Γ h' ρ b := by
    rintro b hno (hb | ⟨k, e, hk, hb⟩)
    · exact hno (.inl hb)
    · obtain ⟨e0, hk0, _⟩ := lsH_lookup hh hk
      exact hno (.inr ⟨k, e0, hk0, hb⟩)
  have hL : ∀ {lv lv' : LV} {u : Value}, LsL Z lv lv' → LRep w (Own Γ σ.h ρ) ρ lv u → LRep w' (Own Γ h' ρ) ρ lv' u := by
    intro lv lv' u hm hr
    cases hm with
    | raw => have h1 : Rep w (Own Γ σ.h ρ) _ u := hr; have h2 := rep_raw' h1; show Rep w' _ _ u; rw [h2]; exact .raw _
    | good g hd => exact g.keep hc hd (fun b _ h => hO b h) hr
    | @av Z2 s hs =>
      refine Rep.kp (O := fun b => Own Γ σ.h ρ b ∨ Z2 b) (O' := fun b => Own Γ h' ρ b ∨ Z2 b) hr fun b hb hno => ⟨hc.block b hb fun h => hno (.inr (hs b h)), ?_⟩
      exact fun h => h.elim (hO b fun h => hno (.inl h)) fun h => hno (.inr h)
    | own => exact hr
    | ptr => exact hr
    | dead => exact trivial
  have hblk : ∀ k e b, σ.h.lookup k = some e → blk (ρ k) = some b → w'.heap[b]? = w.heap[b]? := by
    intro k e b hk hb
    exact hc.block b (I.new k e b hk hb).2 fun h => (hZ b h).2 (.inr ⟨k, e, hk, hb⟩)
  refine ⟨I.dfr, I.size, ⟨hc.os.trans I.frm.os, hc.tape.trans I.frm.tape, hc.output.trans I.frm.output, Nat.le_trans I.frm.size hc.size, fun b hb hm => ?_⟩, ?_, ?_, ?_, ?_, I.out, I.inn⟩
  · refine (hc.block b (Nat.lt_of_lt_of_le hb I.frm.size) fun h => ?_).trans (I.frm.block b hb hm)
    rcases hM b h with h1 | h1
    · omega
    · exact hm h1
  · intro k lv' hk
    obtain ⟨lv, hk0, hm⟩ := lsT_lookup ht hk
    exact hL hm (I.tmp k lv hk0)
  · intro k e' hk
    obtain ⟨e, hk0, hm⟩ := lsH_lookup hh hk
    have he := I.ent k e hk0
    cases hm with
    | @box cc cc' hcs =>
      obtain ⟨b, T, cur, h1, h2, h3, h4⟩ := he
      have hn := lsC_len hcs
      refine ⟨b, T, cur, h1, (hblk k _ b hk0 (by rw [h1]; rfl)).trans h2, by rw [h3, hn], fun j lv' u hj hu => ?_⟩
      have hlt : j < cc.length := by rw [← hn]; exact (List.getElem?_eq_some_iff.1 hj).1
      exact ⟨hL (lsC_get hcs (List.getElem?_eq_getElem hlt) hj) (h4 j cc[j] u (List.getElem?_eq_getElem hlt) hu).1, (h4 j cc[j] u (List.getElem?_eq_getElem hlt) hu).2⟩
    | @row n T l hcs =>
      obtain ⟨hz, xs, vals, hown, hel⟩ := he
      refine ⟨hz, xs, vals, ?_, fun i x' hi => ?_⟩
      · refine ⟨hown.1, ?_⟩
        rcases hown.2 with h | ⟨g, cap, cur, e1, e2, e3, rest⟩
        · exact .inl h
        · exact .inr ⟨g, cap, cur, e1, e2, (hblk k _ g hk0 (by rw [e1]; rfl)).trans e3, rest⟩
      · obtain ⟨r1, r2, r3⟩ := hel i x' hi
        obtain ⟨⟨s, g⟩, hd⟩ := hcs x' (smem hi)
        exact ⟨g.keep hc hd (fun b _ h => hO b h) r1, r2, r3⟩
  · intro k e' b hk hb
    obtain ⟨e, hk0, _⟩ := lsH_lookup hh hk
    exact ⟨(I.new k e b hk0 hb).1, Nat.lt_of_lt_of_le (I.new k e b hk0 hb).2 hc.size⟩
  · intro k k' e e' b hk hk' hb hb'
    obtain ⟨e0, hk0, _⟩ := lsH_lookup hh hk
    obtain ⟨e1, hk1, _⟩ := lsH_lookup hh hk'
    exact I.sep k k' e0 e1 b hk0 hk1 hb hb'
/-- A good copy's value. -/
theorem tree_of (I : Iv Γ σ ρ a w) {x : Operand} {r s : SV} (hx : σ.ev x = .sv r) (g : Gd r s) : Tree w (fun b => Zn b r) s (a.eval x) ∧ (∀ b, Zn b r → b < w.heap.size ∧ ¬ Own Γ σ.h ρ b) := by
  have h := I.ev x
  rw [hx] at h
  exact ⟨g.tree h, fun b hb => Rep.zn hb h⟩
end
section
variable {Γ : Ctx} {ops : Array Oper} {l : List (Oper × Nat)} {t : List (Nat × LV)} {h : List (Nat × Ent)} {K : St → Prop} {c d ty : Nat} {ps : String} {af : Array Edge} {x y : Operand}
/-- A call that writes into a good copy, which is then forgotten. -/
theorem q_markg {f : Nat} {ts : Array Nat} {r s : SV} {k : Int} {R : Int → SV → Prop} (g : Gd r s) (hc : MarkC Γ.P f s k R) (hcl : Calb Γ.P f) (hx : St.ev ⟨t, h⟩ x = .sv r) (hy : St.ev ⟨t, h⟩ y = .sv (.raw (.int .i64 k)))
    (hM : ∀ b, Zn b r → Γ.w0.heap.size ≤ b ∨ Γ.M b) (t' : List (Nat × LV)) (h' : List (Nat × Ent)) (ht : LsT (fun b => Zn b r) t t') (hh : LsH (fun b => Zn b r) h h')
    (hk : ∀ k' s', R k' s' → RunL Γ ops l ⟨(d, .sv (.raw (.int .i64 k'))) :: t', h'⟩ K) :
    RunL Γ ops ((⟨some d, .call { callee := .value (.func f), args := #[x, y], argTypes := ts }, ty, ps, af, none⟩, 2) :: l) ⟨t, h⟩ K := by
  obtain ⟨fn, hf', hname, hb⟩ := hcl
  refine run_x (ext := False) rfl (by omega) (fun h => (h rfl).elim) fun a w ρ I hd => ?_
  obtain ⟨hT, hZ⟩ := tree_of I hx g
  have hY : a.eval y = .int .i64 k := ev_raw I hy
  have hrun : (execOp a.eval ⟨some d, .call { callee := .value (.func f), args := #[x, y], argTypes := ts }, ty, ps, af, none⟩).run Γ.P w = .ok (.enter f #[a.eval x, .int .i64 k]) w := by
    have hF : a.eval (.func f) = .func (.func f) #[] #[] := rfl
    simp [execOp, resolve, hF, Deferred.ofValue, invoke, run_callFunc hf' hname hb, hY]
  unfold XOk oN
  rw [hrun]
  refine (hc w _ _ hT fun b hb => (hZ b hb).1).mono ?_
  rintro e w' ⟨k', s', he, hR, hC, hT'⟩
  exact ⟨_, he, _, hk k' s' hR, ⟨ρ, (I.less hC hZ hM ht hh).put (d := some d) (by simpa [dstOk] using hd) (Rep.raw _)⟩, fun h => h.elim⟩
end
section
variable {Γ : Ctx} {ops : Array Oper} {l : List (Oper × Nat)} {t : List (Nat × LV)} {h : List (Nat × Ent)} {K : St → Prop} {c d ty : Nat} {ps : String} {af : Array Edge} {x : Operand}
/-- A row of bytes that no one writes, as a text. -/
theorem q_cvf {bs : List UInt8} {S D e : Nat} (hs : Γ.P.underlying S = some (.slice e)) (he : Γ.P.underlying e = some (.int .u8)) (hD : Γ.P.underlying D = some .string) (hx : St.ev ⟨t, h⟩ x = .sv (.sl 1 (bs.map byteSV)))
    (hk : RunL Γ ops l ⟨(d, .sv (.raw (.string ⟨bs.toArray⟩))) :: t, h⟩ K) : RunL Γ ops ((⟨some d, .convert S D x, ty, ps, af, none⟩, c + 2) :: l) ⟨t, h⟩ K := by
  refine run_x (ext := True) rfl (by omega) (fun _ => trivial) fun a w ρ I hd => ?_
  have hr := I.ev x
  rw [hx] at hr
  have run : (execOp a.eval ⟨some d, .convert S D x, ty, ps, af, none⟩).run Γ.P w = .ok (.value (.string ⟨bs.toArray⟩)) w := by
    have h1 := run_rep_string (P := Γ.P) hr
    obtain ⟨q, n, cc, hq⟩ := rep_sl hr
    rw [hq] at h1
    simp [execOp, hq, run_convert_bytes_string w S D e q n cc hs he hD, h1]
  unfold XOk oN
  rw [run]
  exact ⟨_, hk, ⟨ρ, I.put (d := some d) (by simpa [dstOk] using hd) (Rep.raw _)⟩, fun _ => Ext.refl w⟩
end
/-- What no writing touches, kept; all else forgotten. -/
def mkD : LV → LV
  | .own k => .own k
  | .ptr k j => .ptr k j
  | .sv (.raw u) => .sv (.raw u)
  | _ => .dead
def mkDT (t : List (Nat × LV)) : List (Nat × LV) := t.map fun p => (p.1, mkD p.2)
theorem mkD_ok {Z : Nat → Prop} {s s' : SV} {v : Value} : ∀ lv : LV, MkL Z s s' v lv (mkD lv)
  | .own _ => .own
  | .ptr _ _ => .ptr
  | .sv (.raw u) => .sv (.raw u)
  | .sv (.sl _ _) => .dead
  | .sv (.agg _) => .dead
  | .sv (.tup _) => .dead
  | .sv (.clo _ _) => .dead
  | .sv (.ptr _) => .dead
  | .sv (.tr _ _ _) => .dead
  | .eptr _ _ _ _ => .dead
  | .osub _ _ _ => .dead
  | .av _ _ => .dead
  | .dead => .dead
theorem mkDT_ok {Z : Nat → Prop} {s s' : SV} {v : Value} : ∀ t : List (Nat × LV), MkT Z s s' v t (mkDT t)
  | [] => trivial
  | (_, lv) :: t => ⟨rfl, mkD_ok lv, mkDT_ok t⟩
theorem fillR_set {rs : List SV} {z x : SV} {n : Nat} (h : rs.length < n) : (rs ++ List.replicate (n - rs.length) z).set rs.length x = (rs ++ [x]) ++ List.replicate (n - (rs ++ [x]).length) z := by
  rw [List.set_append_right _ _ (Nat.le_refl _), Nat.sub_self, show n - rs.length = (n - (rs.length + 1)) + 1 by omega, List.replicate_succ, List.set_cons_zero, List.append_assoc]
  congr 2
  simp
theorem fillR_get {rs : List SV} {z : SV} {n : Nat} (h : rs.length < n) : (rs ++ List.replicate (n - rs.length) z)[rs.length]? = some z := by
  rw [List.getElem?_append_right (Nat.le_refl _), Nat.sub_self, List.getElem?_replicate, if_pos (by omega)]
/-- Some copies, apart: one more. -/
structure Cps (w0 : World) (rs ss : List SV) : Prop where
  len : rs.length = ss.length
  gd : ∀ (i : Nat) (r s : SV), rs[i]? = some r → ss[i]? = some s → Gd r s
  ap : ∀ (i j b : Nat) (ri rj : SV), rs[i]? = some ri → rs[j]? = some rj → Zn b ri → Zn b rj → i = j
  nw : ∀ r ∈ rs, ∀ b, Zn b r → w0.heap.size ≤ b
theorem Cps.nil (w0 : World) : Cps w0 [] [] := ⟨rfl, fun i r s h => by simp at h, fun i j b ri rj h => by simp at h, fun r h => by simp at h⟩
theorem Cps.snoc {w0 : World} {rs ss : List SV} {r s : SV} (h : Cps w0 rs ss) (hg : Gd r s) (ha : ∀ x ∈ rs, ∀ b, Zn b x → ¬ Zn b r) (hn : ∀ b, Zn b r → w0.heap.size ≤ b) : Cps w0 (rs ++ [r]) (ss ++ [s]) := by
  have key : ∀ {α : Type} {l : List α} {x y : α} {i : Nat}, (l ++ [x])[i]? = some y → (l[i]? = some y ∧ i < l.length) ∨ (i = l.length ∧ y = x) := by
    intro α l x y i hi
    rcases Nat.lt_or_ge i l.length with h1 | h1
    · rw [List.getElem?_append_left h1] at hi; exact .inl ⟨hi, h1⟩
    · rw [List.getElem?_append_right h1] at hi
      have h2 := (List.getElem?_eq_some_iff.1 hi).1
      simp at h2
      have h3 : i = l.length := by omega
      subst h3
      simp at hi
      exact .inr ⟨rfl, hi.symm⟩
  refine ⟨by simp [h.len], fun i r' s' hr hs => ?_, fun i j b ri rj hi hj hbi hbj => ?_, fun x hx b hb => ?_⟩
  · rcases key hr with ⟨h1, h2⟩ | ⟨h1, rfl⟩
    · rcases key hs with ⟨h3, _⟩ | ⟨h3, _⟩
      · exact h.gd i r' s' h1 h3
      · have := h.len; omega
    · rcases key hs with ⟨_, h3⟩ | ⟨_, rfl⟩
      · have := h.len; omega
      · exact hg
  · rcases key hi with ⟨h1, h2⟩ | ⟨h1, rfl⟩ <;> rcases key hj with ⟨h3, h4⟩ | ⟨h3, rfl⟩
    · exact h.ap i j b ri rj h1 h3 hbi hbj
    · exact (ha ri (List.mem_of_getElem? h1) b hbi hbj).elim
    · exact (ha rj (List.mem_of_getElem? h3) b hbj hbi).elim
    · omega
  · rcases List.mem_append.1 hx with hx | hx
    · exact h.nw x hx b hb
    · simp at hx; subst hx; exact hn b hb
theorem hnil_of {P : Program} {f n : Nat} {k : Int} (h : PFn P f [.sl n [], .raw (.int .i64 k)] (.raw (.int .i64 k))) (w : World) (v : Value) (hr : Rep w (fun _ => False) (.sl n []) v) : Calls P f #[v, .int .i64 k] w fun e w' => e = .returned (.int .i64 k) ∧ Ext w w' := by
  refine (h w (fun _ => False) #[v, .int .i64 k] (fun b h => h.elim) rfl (fun i s u hs hu => ?_)).mono ?_
  · match i, hs, hu with
    | 0, hs, hu => simp at hs hu; subst hs hu; exact hr
    | 1, hs, hu => simp at hs hu; subst hs hu; exact Rep.raw _
    | i + 2, hs, hu => simp at hs
  · rintro e w' ⟨u, he, hx, hv⟩
    rw [rep_raw' hv] at he
    exact ⟨he, hx⟩
/-- The marks are no more than sixteen to each part of the bulk. -/
def KC (c : Nat) (f : Int → Int) (m : Int) : Prop := ∀ n, 0 ≤ f n → (c : Int) ≤ 16 * (n - f n) + m
theorem kc_take0 (m : Nat) : KC 0 (fun n => take n m) 0 := by
  intro n h
  simp only [take] at h ⊢
  split at h
  · omega
  · rename_i h1; rw [if_neg h1]; omega
theorem kc_take (m c : Nat) (hc : c ≤ 16 * m) : KC c (fun n => take n m) 0 := by
  intro n h
  simp only [take] at h ⊢
  split at h
  · omega
  · rename_i h1; rw [if_neg h1]; omega
theorem kc_stp {a b : Nat} {f g : Int → Int} (hf : KC a f 0) (hg : KC b g 0) : KC (a + b) (stp f g) 0 := by
  intro n h
  unfold stp at h ⊢
  split at h
  · omega
  · rename_i h1
    rw [if_neg h1]
    have := hf n (by omega)
    have := hg (f n) h
    omega
theorem kc_all {α : Type} {c : α → Nat} {f : α → Int → Int} (h : ∀ x, KC (c x) (f x) 16) : ∀ (l : List α) (n : Int), 0 ≤ szAll f l n → (cL c l : Int) ≤ 16 * (n - szAll f l n) + 16 * l.length
  | [], n, _ => by simp [cL, szAll]
  | x :: l, n, h0 => by
    unfold szAll at h0 ⊢
    split at h0
    · omega
    · rename_i h1
      rw [if_neg h1]
      have h2 := h x n (by omega)
      have h3 := kc_all h l (f x n) h0
      simp only [cL, List.length_cons]
      omega
theorem kc_sl {α : Type} {c : α → Nat} {f : α → Int → Int} (h : ∀ x, KC (c x) (f x) 16) (l : List α) : KC (cL c l) (szSl f l) 0 := by
  intro n h0
  by_cases h1 : n - l.length < 0
  · rw [szSl_pos h1] at h0; omega
  · rw [szSl_neg h1] at h0 ⊢
    have := kc_all h l _ h0
    omega
theorem KC.mono {c c' : Nat} {f : Int → Int} {m m' : Int} (h : KC c f m) (hc : (c' : Int) + m ≤ c + m') : KC c' f m' := fun n h0 => by have := h n h0; omega
section
variable {Γ : Ctx} {ops : Array Oper} {l : List (Oper × Nat)} {t : List (Nat × LV)} {h : List (Nat × Ent)} {K : St → Prop} {c d ty : Nat} {ps : String} {af : Array Edge} {x y : Operand}
/-- What stands aside, moved. -/
theorem q_mva {Z : Nat → Prop} {s : SV} (hx : St.ev ⟨t, h⟩ x = .av Z s) (hk : RunL Γ ops l ⟨(d, .av Z s) :: t, h⟩ K) : RunL Γ ops ((⟨some d, .move x, ty, ps, af, none⟩, c) :: l) ⟨t, h⟩ K :=
  run_pure rfl (by show RunL Γ ops l ⟨(d, St.ev ⟨t, h⟩ x) :: t, h⟩ K; rw [hx]; exact hk)
end
end Go.Abs
