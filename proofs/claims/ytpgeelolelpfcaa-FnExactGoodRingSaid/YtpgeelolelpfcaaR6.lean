import Derived.Test.YtpgeelolelpfcaaR5
namespace Go.Ring
open Go Go.RowKit Go.Eager Go.Abs Go.Proofs
set_option maxRecDepth 100000
set_option linter.unusedVariables false
set_option linter.unusedSimpArgs false
theorem ag22 : aggOf Try.prog 22 = some false := by kernel_rfl
theorem ag237 : aggOf Try.prog 237 = some true := by kernel_rfl
theorem ag24 : aggOf Try.prog 24 = some true := by kernel_rfl
theorem ag29 : aggOf Try.prog 29 = some true := by kernel_rfl
theorem by134 : bytOf Try.prog 134 = some 48 := by kernel_rfl
theorem cl14 : Calb Try.prog 14 := ⟨Try.f14, Try.func14, by kernel_rfl, rfl⟩
theorem cl15 : Calb Try.prog 15 := ⟨Try.f15, Try.func15, by kernel_rfl, rfl⟩
theorem cl16 : Calb Try.prog 16 := ⟨Try.f16, Try.func16, by kernel_rfl, rfl⟩
theorem cl17 : Calb Try.prog 17 := ⟨Try.f17, Try.func17, by kernel_rfl, rfl⟩
theorem cl18 : Calb Try.prog 18 := ⟨Try.f18, Try.func18, by kernel_rfl, rfl⟩
theorem cl186 : Calb Try.prog 186 := ⟨Try.f186, Try.func186, by kernel_rfl, rfl⟩
theorem cl189 : Calb Try.prog 189 := ⟨Try.f189, Try.func189, by kernel_rfl, rfl⟩
theorem cl192 : Calb Try.prog 192 := ⟨Try.f192, Try.func192, by kernel_rfl, rfl⟩
theorem cl245 : Calb Try.prog 245 := ⟨Try.f245, Try.func245, by kernel_rfl, rfl⟩
theorem cl44 : Calb Try.prog 44 := ⟨Try.f44, Try.func44, by kernel_rfl, rfl⟩
theorem cl46 : Calb Try.prog 46 := ⟨Try.f46, Try.func46, by kernel_rfl, rfl⟩
theorem cl84 : Calb Try.prog 84 := ⟨Try.f84, Try.func84, by kernel_rfl, rfl⟩
theorem cl88 : Calb Try.prog 88 := ⟨Try.f88, Try.func88, by kernel_rfl, rfl⟩
theorem cl91 : Calb Try.prog 91 := ⟨Try.f91, Try.func91, by kernel_rfl, rfl⟩
theorem eS22 : (elOf Try.prog 22).isSome = true := by kernel_rfl
theorem el22 : elOf Try.prog 22 = some (237, 3) := by kernel_rfl
theorem fd237_0 : fdOf Try.prog 237 0 = some (0, 1, false) := by kernel_rfl
theorem fd237_1 : fdOf Try.prog 237 1 = some (1, 1, false) := by kernel_rfl
theorem fd237_2 : fdOf Try.prog 237 2 = some (2, 1, false) := by kernel_rfl
theorem fd24_0 : fdOf Try.prog 24 0 = some (0, 1, false) := by kernel_rfl
theorem fd24_1 : fdOf Try.prog 24 1 = some (1, 1, false) := by kernel_rfl
theorem sz237 : szOf Try.prog 237 = some 3 := by kernel_rfl
theorem sz24 : szOf Try.prog 24 = some 2 := by kernel_rfl
theorem sz27 : szOf Try.prog 27 = some 1 := by kernel_rfl
theorem sz29 : szOf Try.prog 29 = some 2 := by kernel_rfl
theorem sz67 : szOf Try.prog 67 = some 1 := by kernel_rfl
theorem sz9 : szOf Try.prog 9 = some 1 := by kernel_rfl
theorem ze29 : zeroOf Try.prog 29 = some (.agg #[.int .i64 0, .slice none 0 0]) := by kernel_rfl
/-- What is left of n when m is taken: −1 if that is less than none. -/
def take (n m : Int) : Int := if n - m < 0 then -1 else n - m
def LB (l : Nat) : Prop := l ≤ 9223372036854775807
theorem take_le {n m : Int} (hn : n ≤ 1048576) (hm : 0 ≤ m) : take n m ≤ 1048576 ∧ (take n m < 0 ∨ 0 ≤ take n m) := by unfold take; split <;> omega
theorem f245_ok (xs : List Int) (hx : LB xs.length) (n : Int) (h0 : 0 ≤ n) (h1 : n ≤ 1048576) : PFn Try.prog 245 [ints xs, int n] (int (take n xs.length)) := by
  unfold LB at hx
  have hl : (xs.map int).length = xs.length := by simp
  refine fn_ok' (n := 12) Try.func245 rfl rfl rfl (Nat.le_of_ble_eq_true rfl) rfl fun w0 O => ?_
  refine ok_seq fun K1 h1 => ok_region rfl (q_as _ rfl (run_nil (h1 _ ?_))); clear h1 K1
  refine ok_seq fun K2 h2 => ok_region rfl (q_mv _ rfl (q_mv _ rfl (q_len eS67 rfl (q_sub rfl rfl (by omega) (q_as _ rfl (run_nil (h2 _ ?_))))))); clear h2 K2
  refine ok_seq fun K3 h3 => ?_
  refine ok_seq fun K4 h4 => ok_region rfl (q_mv _ rfl (q_bin _ _ _ rfl rfl rfl (run_nil (h4 _ ?_)))); clear h4 K4
  rw [hl]
  refine ok_cond rfl (fun c5 => ?_) (fun c5 => ?_)
  · refine ok_seq fun K6 h6 => ?_
    refine ok_region rfl (q_as _ rfl (run_nil (h6 _ ?_)))
    clear h6 K6
    refine ok_ret ⟨_, rfl, ?_⟩
    rw [take, if_pos (of_decide_eq_true c5)]; rfl
  · refine ok_skip (h3 _ ?_)
    refine ok_seq fun K7 h7 => ok_region rfl (q_mv _ rfl (q_as _ rfl (run_nil (h7 _ ?_)))); clear h7 K7
    refine ok_ret ⟨_, rfl, ?_⟩
    rw [take, if_neg (of_decide_eq_false c5)]; rfl
def LNode (n : RNode) : Prop := LB n.id.size ∧ LB n.toks.length
def szNode (nd : RNode) (n : Int) : Int := if take n nd.id.size < 0 then -1 else take (take n nd.id.size) nd.toks.length
theorem take_neg {n m : Int} (h : take n m < 0) : take n m = -1 := by unfold take at *; split at h <;> split <;> omega
theorem f186_ok (nd : RNode) (hx : LNode nd) (n : Int) (h0 : 0 ≤ n) (h1 : n ≤ 1048576) : PFn Try.prog 186 [node nd, int n] (int (szNode nd n)) := by
  obtain ⟨hx1, hx2⟩ := hx
  unfold LB at hx1
  have hn1 := h1
  refine fn_ok' (n := 19) Try.func186 rfl rfl rfl (Nat.le_of_ble_eq_true rfl) rfl fun w0 O => ?_
  refine ok_seq fun K1 h1 => ok_region rfl (q_boxs _ rfl (Nat.zero_lt_succ _) (q_as _ rfl (run_nil (h1 _ ?_)))); clear h1 K1
  refine ok_seq fun K2 h2 => ok_region rfl (q_mv _ rfl (q_fa _ fd237_0 rfl rfl (by decide) (q_ld _ ag9 rfl rfl (q_lens st9 rfl (q_sub rfl rfl (by omega) (q_as _ rfl (run_nil (h2 _ ?_)))))))); clear h2 K2
  refine ok_seq fun K3 h3 => ?_
  refine ok_seq fun K4 h4 => ok_region rfl (q_mv _ rfl (q_bin _ _ _ rfl rfl rfl (run_nil (h4 _ ?_)))); clear h4 K4
  refine ok_cond rfl (fun c5 => ?_) (fun c5 => ?_)
  · refine ok_seq fun K6 h6 => ?_
    refine ok_region rfl (q_as _ rfl (run_nil (h6 _ ?_)))
    clear h6 K6
    refine ok_ret ⟨_, rfl, ?_⟩
    have c := of_decide_eq_true c5
    rw [szNode, if_pos (by unfold take; rw [if_pos c]; omega)]; rfl
  · refine ok_skip (h3 _ ?_)
    have c := of_decide_eq_false c5
    have ht : take n nd.id.size = n - nd.id.size := by unfold take; rw [if_neg c]
    refine ok_seq fun K7 h7 => ok_region rfl (q_fa _ fd237_2 rfl rfl (by decide) (q_ld _ ag67 rfl rfl (q_mv _ rfl (q_call (f245_ok nd.toks hx2 _ (by omega) (by omega)) cl245 rfl rfl (q_as _ rfl (run_nil (h7 _ ?_))))))); clear h7 K7
    refine ok_seq fun K8 h8 => ?_
    refine ok_seq fun K9 h9 => ok_region rfl (q_mv _ rfl (q_bin _ _ _ rfl rfl rfl (run_nil (h9 _ ?_)))); clear h9 K9
    refine ok_cond rfl (fun c10 => ?_) (fun c10 => ?_)
    · refine ok_seq fun K11 h11 => ?_
      refine ok_region rfl (q_as _ rfl (run_nil (h11 _ ?_)))
      clear h11 K11
      refine ok_ret ⟨_, rfl, ?_⟩
      rw [szNode, if_neg (by omega), ht, take_neg (of_decide_eq_true c10)]; rfl
    · refine ok_skip (h8 _ ?_)
      refine ok_seq fun K12 h12 => ok_region rfl (q_mv _ rfl (q_as _ rfl (run_nil (h12 _ ?_)))); clear h12 K12
      refine ok_ret ⟨_, rfl, ?_⟩
      rw [szNode, if_neg (by omega), ht]; rfl
theorem szNode_le (nd : RNode) {n : Int} (hn : n ≤ 1048576) : szNode nd n ≤ 1048576 := by
  unfold szNode; split
  · omega
  · exact (take_le (take_le hn (by omega)).1 (by omega)).1
def szAll {α : Type} (f : α → Int → Int) : List α → Int → Int
  | [], n => n
  | x :: l, n => if f x n < 0 then -1 else szAll f l (f x n)
theorem szAll_cons {α : Type} (f : α → Int → Int) {l : List α} {k : Nat} {x : α} (h : l[k]? = some x) (n : Int) : szAll f (l.drop k) n = if f x n < 0 then -1 else szAll f (l.drop (k + 1)) (f x n) := by
  obtain ⟨hlt, he⟩ := List.getElem?_eq_some_iff.1 h
  rw [List.drop_eq_getElem_cons hlt, he]; rfl
def szSl {α : Type} (f : α → Int → Int) (l : List α) (n : Int) : Int := if take n l.length < 0 then -1 else szAll f l (take n l.length)
theorem f84_ok (l : List RNode) (hx : LB l.length ∧ ∀ x ∈ l, LNode x) (n : Int) (h0 : 0 ≤ n) (h1 : n ≤ 1048576) : PFn Try.prog 84 [.sl 3 (l.map node), int n] (int (szSl szNode l n)) := by
  obtain ⟨hx1, hx2⟩ := hx
  unfold LB at hx1
  have hn1 := h1
  have hl : (l.map node).length = l.length := by simp
  refine fn_ok' (n := 27) Try.func84 rfl rfl rfl (Nat.le_of_ble_eq_true rfl) rfl fun w0 O => ?_
  refine ok_seq fun K1 h1 => ok_region rfl (q_as _ rfl (run_nil (h1 _ ?_))); clear h1 K1
  refine ok_seq fun K2 h2 => ok_region rfl (q_mv _ rfl (q_mv _ rfl (q_len eS22 rfl (q_sub rfl rfl (by omega) (q_as _ rfl (run_nil (h2 _ ?_))))))); clear h2 K2
  rw [hl]
  refine ok_seq fun K3 h3 => ?_
  refine ok_seq fun K4 h4 => ok_region rfl (q_mv _ rfl (q_bin _ _ _ rfl rfl rfl (run_nil (h4 _ ?_)))); clear h4 K4
  refine ok_cond rfl (fun c5 => ?_) (fun c5 => ?_)
  · refine ok_seq fun K6 h6 => ?_
    refine ok_region rfl (q_as _ rfl (run_nil (h6 _ ?_)))
    clear h6 K6
    refine ok_ret ⟨_, rfl, ?_⟩
    have c := of_decide_eq_true c5
    rw [szSl, if_pos (by unfold take; rw [if_pos c]; omega)]; rfl
  · refine ok_skip (h3 _ ?_)
    have c := of_decide_eq_false c5
    have ht : take n l.length = n - l.length := by unfold take; rw [if_neg c]
    refine ok_seq fun K7 h7 => ?_
    refine ok_seq fun K8 h8 => ok_region rfl (q_as _ rfl (run_nil (h8 _ ?_))); clear h8 K8
    refine ok_block ?_
    refine ok_loop (fun (s : Nat × Int) => ⟨[(0, .sv (.sl 3 (l.map node))), (1, .sv (int s.2)), (5, .sv (int s.1))], []⟩) (fun s => 0 ≤ s.2 ∧ s.2 ≤ 1048576 ∧ szAll szNode (l.drop s.1) s.2 = szSl szNode l n) (fun s => l.length - s.1) (0, n - l.length) ⟨by simp only; omega, by simp only; omega, by simp only [List.drop_zero]; rw [szSl, if_neg (by omega), ht]⟩ (le_same ⟨rfl, rfl, rfl, trivial⟩) (fun s J => ?_)
    obtain ⟨k, a⟩ := s
    obtain ⟨J1, J2, J3⟩ := J
    simp only at J1 J2 J3
    refine ok_seq fun K9 h9 => ?_
    refine ok_seq fun K10 h10 => ok_region rfl (q_mv _ rfl (q_mv _ rfl (q_len eS22 rfl (q_bin _ _ _ rfl rfl rfl (run_nil (h10 _ ?_)))))); clear h10 K10
    rw [hl]
    refine ok_cond rfl (fun c11 => ?_) (fun c11 => ?_)
    · refine ok_skip (h9 _ ?_)
      have hk : k < l.length := by simpa using c11
      obtain ⟨x, hxk⟩ : ∃ x, l[k]? = some x := ⟨_, List.getElem?_eq_getElem hk⟩
      rw [szAll_cons _ hxk] at J3
      refine ok_seq fun K12 h12 => ?_
      refine ok_block ?_
      refine ok_seq fun K13 h13 => ok_region rfl (q_mv _ rfl (q_mv _ rfl (q_ia el22 rfl rfl (by omega) (nget hxk) (q_lds _ ag237 rfl sz237 (q_mv _ rfl (q_call (f186_ok x (hx2 x (List.mem_of_getElem? hxk)) a J1 J2) cl186 rfl rfl (q_as _ rfl (run_nil (h13 _ ?_))))))))); clear h13 K13
      refine ok_seq fun K14 h14 => ok_region rfl (q_mv _ rfl (q_bin _ _ _ rfl rfl rfl (run_nil (h14 _ ?_)))); clear h14 K14
      refine ok_cond rfl (fun c15 => ?_) (fun c15 => ?_)
      · refine ok_seq fun K16 h16 => ?_
        refine ok_region rfl (q_as _ rfl (run_nil (h16 _ ?_)))
        clear h16 K16
        refine ok_ret ⟨_, rfl, ?_⟩
        rw [if_pos (of_decide_eq_true c15)] at J3
        rw [← J3]; rfl
      · refine ok_skip (h12 _ ?_)
        have c := of_decide_eq_false c15
        rw [if_neg c] at J3
        refine ok_region rfl (q_mv _ rfl (q_add rfl rfl (by omega) (q_as _ rfl (run_nil (⟨(k + 1, szNode x a), by simp only; omega, ⟨by simp only; omega, szNode_le x J2, J3⟩, le_same ⟨rfl, rfl, rfl, trivial⟩⟩)))))
    · refine ok_exit (h7 _ ?_)
      have hk : l.length ≤ k := by simpa using c11
      refine ok_seq fun K17 h17 => ok_region rfl (q_mv _ rfl (q_as _ rfl (run_nil (h17 _ ?_)))); clear h17 K17
      refine ok_ret ⟨_, rfl, ?_⟩
      rw [List.drop_of_length_le hk] at J3
      rw [← J3]; rfl
def LRing (r : Rg) : Prop := LB r.nodes.length ∧ ∀ x ∈ r.nodes, LNode x
def szRing (r : Rg) (n : Int) : Int := szSl szNode r.nodes n
theorem szAll_neg {α : Type} (f : α → Int → Int) (hf : ∀ x n, f x n < 0 → f x n = -1) : ∀ (l : List α) (n : Int), szAll f l n < 0 → n < 0 ∨ szAll f l n = -1
  | [], n, h => .inl h
  | x :: l, n, h => by
    unfold szAll at h ⊢
    split
    · exact .inr rfl
    · rename_i hx; rw [if_neg hx] at h
      exact .inr ((szAll_neg f hf l _ h).resolve_left hx)
theorem szNode_neg (nd : RNode) (n : Int) (h : szNode nd n < 0) : szNode nd n = -1 := by
  unfold szNode at *; split
  · rfl
  · rename_i hx; rw [if_neg hx] at h; exact take_neg h
theorem szSl_neg {α : Type} (f : α → Int → Int) (hf : ∀ x n, f x n < 0 → f x n = -1) (l : List α) (n : Int) (h : szSl f l n < 0) : szSl f l n = -1 := by
  unfold szSl at *; split
  · rfl
  · rename_i hx; rw [if_neg hx] at h; exact (szAll_neg f hf l _ h).resolve_left hx
theorem f14_ok (r : Rg) (hx : LRing r) (n : Int) (h0 : 0 ≤ n) (h1 : n ≤ 1048576) : PFn Try.prog 14 [ring r, int n] (int (szRing r n)) := by
  have hn1 := h1
  refine fn_ok' (n := 12) Try.func14 rfl rfl rfl (Nat.le_of_ble_eq_true rfl) rfl fun w0 O => ?_
  refine ok_seq fun K1 h1 => ok_region rfl (q_boxs _ rfl (Nat.zero_lt_succ _) (q_as _ rfl (run_nil (h1 _ ?_)))); clear h1 K1
  refine ok_seq fun K2 h2 => ok_region rfl (q_fa _ fd24_1 rfl rfl (by decide) (q_ld _ ag22 rfl rfl (q_mv _ rfl (q_call (f84_ok r.nodes hx n h0 hn1) cl84 rfl rfl (q_as _ rfl (run_nil (h2 _ ?_))))))); clear h2 K2
  refine ok_seq fun K3 h3 => ?_
  refine ok_seq fun K4 h4 => ok_region rfl (q_mv _ rfl (q_bin _ _ _ rfl rfl rfl (run_nil (h4 _ ?_)))); clear h4 K4
  refine ok_cond rfl (fun c5 => ?_) (fun c5 => ?_)
  · refine ok_seq fun K6 h6 => ?_
    refine ok_region rfl (q_as _ rfl (run_nil (h6 _ ?_)))
    clear h6 K6
    refine ok_ret ⟨_, rfl, ?_⟩
    rw [szRing, szSl_neg _ szNode_neg _ _ (of_decide_eq_true c5)]; rfl
  · refine ok_skip (h3 _ ?_)
    refine ok_seq fun K7 h7 => ok_region rfl (q_mv _ rfl (q_as _ rfl (run_nil (h7 _ ?_)))); clear h7 K7
    exact ok_ret ⟨_, rfl, rfl⟩
theorem szAll_small {α : Type} (f : α → Int → Int) (S : α → Prop) (hf : ∀ x n, n ≤ 1048576 → 0 ≤ f x n → S x) (hle : ∀ x n, n ≤ 1048576 → f x n ≤ 1048576) : ∀ (l : List α) (n : Int), n ≤ 1048576 → 0 ≤ szAll f l n → ∀ x ∈ l, S x
  | [], n, _, h => fun x hx => by simp at hx
  | y :: l, n, hn, h => by
    unfold szAll at h
    split at h
    · omega
    · rename_i hy
      intro x hx
      rcases List.mem_cons.1 hx with rfl | hx
      · exact hf _ n hn (by omega)
      · exact szAll_small f S hf hle l _ (hle y n hn) h x hx
theorem take_small {n m : Int} (h : 0 ≤ take n m) : m ≤ n := by unfold take at h; split at h <;> omega
theorem szSl_small {α : Type} (f : α → Int → Int) (S : α → Prop) (hf : ∀ x n, n ≤ 1048576 → 0 ≤ f x n → S x) (hle : ∀ x n, n ≤ 1048576 → f x n ≤ 1048576) (l : List α) (n : Int) (hn : n ≤ 1048576) (h : 0 ≤ szSl f l n) : l.length ≤ 1048576 ∧ ∀ x ∈ l, S x := by
  unfold szSl at h
  split at h
  · omega
  · rename_i ht
    have := take_small (n := n) (m := l.length) (by omega)
    exact ⟨by omega, szAll_small f S hf hle l _ (take_le hn (by omega)).1 h⟩
theorem szNode_small (nd : RNode) (n : Int) (hn : n ≤ 1048576) (h : 0 ≤ szNode nd n) : Small nd := by
  unfold szNode at h
  split at h
  · omega
  · have h1 := take_small h
    have h2 := take_le (m := nd.id.size) hn (by omega)
    have h3 := take_small (n := n) (m := nd.id.size) (by omega)
    unfold Small; omega
theorem szRing_small (r : Rg) (n : Int) (hn : n ≤ 1048576) (h : 0 ≤ szRing r n) : SmallR r :=
  szSl_small _ Small (fun x n => szNode_small x n) (fun x n => szNode_le x) r.nodes n hn h
end Go.Ring
