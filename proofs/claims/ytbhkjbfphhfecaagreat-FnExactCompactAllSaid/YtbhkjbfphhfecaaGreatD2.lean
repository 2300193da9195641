/- What is to be compacted next, put together. No condition. -/
import Derived.Test.YtbhkjbfphhfecaaGreatD1
set_option maxRecDepth 100000
set_option linter.unusedVariables false
set_option linter.unusedSimpArgs false
namespace Go.Ring
open Go Go.RowKit Go.Eager Go.Abs Go.Proofs
/-- The series of blocks, laid together. -/
def mrgB (l : List Block) : List Series := l.foldl (fun a b => mrgS a (standL b)) []
@[reducible] def mrgBk (a w L : Int) (l : List Block) : Block := ⟨a, a + w, L, mrgB l, []⟩
theorem mrgB_step {l : List Block} {k : Nat} {b : Block} (h : l[k]? = some b) : mrgB (l.take (k + 1)) = mrgS (mrgB (l.take k)) (standL b) := by
  unfold mrgB
  rw [List.take_add_one, h, Option.toList_some, List.foldl_append]
  rfl
theorem standL_lb {b : Block} (h : LbOk b.series) : LbOk (standL b) := fun y hy => by
  obtain ⟨s, hs, h2⟩ := List.mem_filterMap.1 hy
  unfold stG at h2
  split at h2
  · cases h2; exact h s hs
  · cases h2
theorem standL_wt (b : Block) : wt (standL b) ≤ wt b.series := wt_fm (fun s y h => by
  unfold stG at h
  split at h
  · cases h; exact stand1_len b s
  · cases h) b.series
theorem fold_inv {f : Block → List Series} : ∀ (l : List Block) (a : List Series), (∀ b ∈ l, LbOk (f b)) → (∀ b ∈ l, wt (f b) ≤ wt b.series) → Srt a → LbOk a →
    Srt (l.foldl (fun a b => mrgS a (f b)) a) ∧ LbOk (l.foldl (fun a b => mrgS a (f b)) a) ∧ wt (l.foldl (fun a b => mrgS a (f b)) a) ≤ wt a + wtB l
  | [], a, _, _, h1, h2 => ⟨h1, h2, Nat.le_refl _⟩
  | b :: l, a, hb, hw, h1, h2 => by
    obtain ⟨k1, k2, k3⟩ := mrg_inv (f b) a h1 h2 (hb b (List.mem_cons_self ..))
    obtain ⟨m1, m2, m3⟩ := fold_inv l (mrgS a (f b)) (fun x hx => hb x (List.mem_cons_of_mem _ hx)) (fun x hx => hw x (List.mem_cons_of_mem _ hx)) k1 k2
    refine ⟨m1, m2, ?_⟩
    have := hw b (List.mem_cons_self ..)
    show wt (l.foldl (fun a b => mrgS a (f b)) (mrgS a (f b))) ≤ wt a + (wt b.series + sumF (fun b => wt b.series) l)
    unfold wtB at m3
    omega
theorem srt_nil : Srt [] := fun i j x y _ h => by simp at h
theorem lb_nil : LbOk [] := fun y h => by simp at h
theorem mrgB_inv {l : List Block} (h : ∀ b ∈ l, SBlock b) : Srt (mrgB l) ∧ LbOk (mrgB l) ∧ wt (mrgB l) ≤ wtB l := by
  obtain ⟨h1, h2, h3⟩ := fold_inv (f := standL) l [] (fun b hb => standL_lb (ss_lb (h b hb).1.2)) (fun b _ => standL_wt b) srt_nil lb_nil
  exact ⟨h1, h2, by unfold mrgB; simpa [wt] using h3⟩
theorem wtB_filter (p : Block → Bool) : ∀ l : List Block, wtB (l.filter p) ≤ wtB l
  | [] => Nat.le_refl _
  | b :: l => by
    have ih := wtB_filter p l
    unfold wtB at ih ⊢
    rw [List.filter_cons]
    split <;> simp only [sumF] <;> omega
def lastF (l : List Block) : Int := match l[l.length - 1]? with | some x => x.from_ | none => 0
/-- What a block's span gives, at a level. -/
noncomputable def tryB (base L : Int) (l : List Block) (b : Block) : Option (List Int) :=
  if b.level = L - 1 ∧ b.from_ / widI base L * widI base L + widI base L ≤ lastF l ∧ (l.filter (inI (b.from_ / widI base L * widI base L) (widI base L))).any (fun x => decide (L ≤ x.level)) = false ∧
    pB (BlockOk (mrgBk (b.from_ / widI base L * widI base L) (widI base L) L (l.filter (inI (b.from_ / widI base L * widI base L) (widI base L))))) = true
  then some (ixF (inI (b.from_ / widI base L * widI base L) (widI base L)) l 0) else none
noncomputable def planL (base L : Int) (l : List Block) : Option (List Int) := l.findSome? (tryB base L l)
noncomputable def planO (base : Int) (l : List Block) : Option (List Int) := (planL base 2 l).or ((planL base 3 l).or (planL base 4 l))
noncomputable def planR (base : Int) (l : List Block) : List Int := if pB (ShelfOk base l) = true then (planO base l).getD [] else []
theorem find_step {α β : Type} {g : α → Option β} {l : List α} {k : Nat} {x : α} (h : l[k]? = some x) (hn : (l.take k).findSome? g = none) : (l.take (k + 1)).findSome? g = g x := by
  rw [List.take_add_one, h, Option.toList_some, List.findSome?_append, hn]
  simp
theorem find_hit {α β : Type} {g : α → Option β} {l : List α} {k : Nat} {x : α} {y : β} (h : l[k]? = some x) (hn : (l.take k).findSome? g = none) (hy : g x = some y) : l.findSome? g = some y := by
  rw [← List.take_append_drop k l, List.findSome?_append, hn, drop_cons h]
  simp [hy]
/-- A block lies in its own span. -/
theorem in_self {base : Int} {l : List Block} (h : ShelfOk base l) {L : Int} (hL : 2 ≤ L ∧ L ≤ 4) {b : Block} (hb : b ∈ l) (hbl : b.level = L - 1) : inI (b.from_ / widI base L * widI base L) (widI base L) b = true := by
  rw [← in_eq h hL hb hbl hb]
  have hb0 : 1 ≤ base ∧ base ≤ 1000000 := ⟨h.1, h.2.1⟩
  have hw : 0 < widI base L := by
    rw [wid_un2 hb0 (by omega)]
    exact Int.mul_pos (by rcases un_cases (l := L) (by omega) with ⟨_, e⟩ | ⟨_, e⟩ | ⟨_, e⟩ | ⟨_, e⟩ <;> omega) (by omega)
  have h1 := Int.ediv_mul_le b.from_ (Int.ne_of_gt hw)
  have h2 := Int.lt_ediv_add_one_mul_self b.from_ hw
  rw [Int.add_mul, Int.one_mul] at h2
  unfold inM
  simp only [Bool.or_eq_true, Bool.and_eq_true, decide_eq_true_eq]
  exact .inl ⟨h1, h2⟩
end Go.Ring
