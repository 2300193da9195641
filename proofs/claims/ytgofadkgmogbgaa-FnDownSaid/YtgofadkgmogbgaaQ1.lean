/- Labels' text, a text's bytes mixed: the program. No condition beyond the lengths. -/
import Derived.Test.YtgofadkgmogbgaaP1
import Derived.Test.YtgofadkgmogbgaaEg2
import Derived.Test.YtgofadkgmogbgaaSp
set_option maxRecDepth 100000
set_option linter.unusedVariables false
set_option linter.unusedSimpArgs false
namespace Go.Ring
open Go Go.RowKit Go.Eager Go.Abs Go.Proofs
theorem shr1 {n m : Int} (h : n / 2 = m) : vBin .shr (.int .u64 n) (.int .u64 1) = some (.int .u64 m) := by subst h; rfl
theorem wrap64r (n : Int) : 0 ≤ IntKind.u64.wrap n ∧ IntKind.u64.wrap n ≤ 18446744073709551615 := by
  have h : IntKind.u64.wrap n = n % 18446744073709551616 := by unfold IntKind.wrap; rfl
  rw [h]; omega
def mixS (h : Int) (b : UInt8) : Int :=
  bits .xor .u64 (IntKind.u64.wrap (bits .xor .u64 h (b.toNat : Int) * 1099511628211)) (IntKind.u64.wrap (bits .xor .u64 h (b.toNat : Int) * 1099511628211) / 2 ^ 29)
theorem mixS_in (h : Int) (b : UInt8) : 0 ≤ mixS h b ∧ mixS h b ≤ 18446744073709551615 := wrap64r _
def mixL : List UInt8 → Int → Int
  | [], h => h
  | b :: l, h => mixL l (mixS h b)
theorem mixL_in : ∀ (l : List UInt8) (h : Int), 0 ≤ h → h ≤ 18446744073709551615 → 0 ≤ mixL l h ∧ mixL l h ≤ 18446744073709551615
  | [], h, h0, h1 => ⟨h0, h1⟩
  | b :: l, h, _, _ => mixL_in l _ (mixS_in h b).1 (mixS_in h b).2
theorem mixL_step {l : List UInt8} {k : Nat} {b : UInt8} (hb : l[k]? = some b) (h : Int) : mixL (l.drop k) h = mixL (l.drop (k + 1)) (mixS h b) := by
  obtain ⟨hlt, he⟩ := List.getElem?_eq_some_iff.1 hb
  rw [List.drop_eq_getElem_cons hlt, he]; rfl
theorem mixL_end {l : List UInt8} {k : Nat} (hk : l.length ≤ k) (h : Int) : mixL (l.drop k) h = h := by rw [List.drop_of_length_le hk]; rfl
def mixI (l : List UInt8) : Int := mixL l 1469598103 / 2
@[reducible] def bytesV (l : List UInt8) : SV := .sl 1 (l.map byt)
@[reducible] def u64 (x : Int) : SV := .raw (.int .u64 x)
theorem half2 {n : Int} (h0 : 0 ≤ n) (h1 : n ≤ 18446744073709551615) : vBin .quo (.int .u64 n) (.int .u64 2) = some (.int .u64 (n / 2)) := by
  have h : IntKind.u64.wrap (n.tdiv 2) = n / 2 := by rw [Int.tdiv_eq_ediv_of_nonneg h0]; exact IntWalk.u64_in _ (by omega)
  simp [vBin, vInt, h]
theorem f189_ok (l : List UInt8) (hl : l.length ≤ 9223372036854775807) : PFn Try.prog 189 [bytesV l] (int (mixI l)) := by
  refine fn_ok' (n := 26) Try.func189 rfl rfl rfl (Nat.le_of_ble_eq_true rfl) rfl fun w0 O => ?_
  refine ok_seq fun K1 h1 => ok_region rfl (q_as _ rfl (run_nil (h1 _ ?_))); clear h1 K1
  refine ok_seq fun K2 h2 => ok_region rfl (q_as _ rfl (run_nil (h2 _ ?_))); clear h2 K2
  refine ok_seq fun K3 h3 => ?_
  refine ok_seq fun K4 h4 => ok_region rfl (q_mv _ rfl (q_len eS22 rfl (q_mv _ rfl (run_nil (h4 _ ?_))))); clear h4 K4
  rw [List.length_map]
  refine ok_block ?_
  refine ok_loop (fun (s : Nat × Int) => ⟨[(3, .sv (u64 s.2)), (6, .sv (bytesV l)), (7, .sv (int l.length)), (8, .sv (int s.1))], []⟩) (fun s => 0 ≤ s.2 ∧ s.2 ≤ 18446744073709551615 ∧ mixL l 1469598103 = mixL (l.drop s.1) s.2) (fun s => l.length - s.1) (0, 1469598103) ⟨by decide, by decide, rfl⟩ (le_same ⟨rfl, rfl, rfl, rfl, trivial⟩) (fun s J => ?_)
  obtain ⟨k, hv⟩ := s
  obtain ⟨j1, j2, j3⟩ := J
  simp only at j1 j2 j3
  refine ok_seq fun K5 h5 => ok_region rfl (q_bin _ _ _ rfl rfl rfl (run_nil (h5 _ ?_))); clear h5 K5
  refine ok_seq fun K6 h6 => ?_
  refine ok_cond rfl (fun c7 => ?_) (fun c7 => ?_)
  · refine ok_skip (h6 _ ?_)
    have hk : k < l.length := by simpa using c7
    obtain ⟨u, hu⟩ := sget hk
    rw [mixL_step hu] at j3
    refine ok_seq fun K8 h8 => ?_
    refine ok_block ?_
    refine ok_seq fun K9 h9 => ok_region rfl (q_ia (s := byt u) el22 rfl rfl (by omega) (mget hu) (q_ld _ ag5 rfl rfl (q_as _ rfl (run_nil (h9 _ ?_))))); clear h9 K9
    refine ok_seq fun K10 h10 => ok_region rfl (q_mv _ rfl (q_mv _ rfl (q_cv aS5 ik113 rfl (IntWalk.u64_in _ (by have := u.toNat_lt; omega)) (q_bin _ _ _ rfl rfl rfl (q_as _ rfl (run_nil (h10 _ ?_))))))); clear h10 K10
    refine ok_seq fun K11 h11 => ok_region rfl (q_mv _ rfl (q_bin _ _ _ rfl rfl rfl (q_as _ rfl (run_nil (h11 _ ?_))))); clear h11 K11
    refine ok_last fun K12 h12 => ok_region rfl (
      q_mv _ rfl (q_mv _ rfl (q_bin _ _ _ rfl rfl rfl (q_bin _ _ _ rfl rfl rfl (q_as _ rfl (run_nil (h12 _ (h8 _ ?_))))))))
    refine ok_last fun K13 h13 => ok_region rfl (
      q_add rfl rfl (by omega) (q_mv _ rfl (run_nil (h13 _ (⟨(k + 1, mixS hv u), by simp only; omega, ⟨(mixS_in hv u).1, (mixS_in hv u).2, j3⟩, le_same ⟨rfl, rfl, rfl, rfl, trivial⟩⟩)))))
  · refine ok_exit (h3 _ ?_)
    refine ok_seq fun K14 h14 => ok_region rfl (q_mv _ rfl (q_bin (.int .u64 hv) (.int .u64 2) (.int .u64 (hv / 2)) rfl rfl (half2 j1 j2) (q_cv aS113 ik3 rfl (IntWalk.i64_in _ (by omega)) (q_as _ rfl (run_nil (h14 _ ?_)))))); clear h14 K14
    refine ok_ret ⟨_, rfl, ?_⟩
    rw [mixL_end (by simpa using c7)] at j3
    rw [mixI, j3]; rfl
theorem f121_ok (l : List UInt8) (hl : l.length ≤ 9223372036854775807) : PFn Try.prog 121 [bytesV l] (int (mixI l)) := by
  refine fn_ok' (n := 26) Try.func121 rfl rfl rfl (Nat.le_of_ble_eq_true rfl) rfl fun w0 O => ?_
  refine ok_seq fun K1 h1 => ok_region rfl (q_as _ rfl (run_nil (h1 _ ?_))); clear h1 K1
  refine ok_seq fun K2 h2 => ok_region rfl (q_as _ rfl (run_nil (h2 _ ?_))); clear h2 K2
  refine ok_seq fun K3 h3 => ?_
  refine ok_seq fun K4 h4 => ok_region rfl (q_mv _ rfl (q_len eS22 rfl (q_mv _ rfl (run_nil (h4 _ ?_))))); clear h4 K4
  rw [List.length_map]
  refine ok_block ?_
  refine ok_loop (fun (s : Nat × Int) => ⟨[(3, .sv (u64 s.2)), (6, .sv (bytesV l)), (7, .sv (int l.length)), (8, .sv (int s.1))], []⟩) (fun s => 0 ≤ s.2 ∧ s.2 ≤ 18446744073709551615 ∧ mixL l 1469598103 = mixL (l.drop s.1) s.2) (fun s => l.length - s.1) (0, 1469598103) ⟨by decide, by decide, rfl⟩ (le_same ⟨rfl, rfl, rfl, rfl, trivial⟩) (fun s J => ?_)
  obtain ⟨k, hv⟩ := s
  obtain ⟨j1, j2, j3⟩ := J
  simp only at j1 j2 j3
  refine ok_seq fun K5 h5 => ok_region rfl (q_bin _ _ _ rfl rfl rfl (run_nil (h5 _ ?_))); clear h5 K5
  refine ok_seq fun K6 h6 => ?_
  refine ok_cond rfl (fun c7 => ?_) (fun c7 => ?_)
  · refine ok_skip (h6 _ ?_)
    have hk : k < l.length := by simpa using c7
    obtain ⟨u, hu⟩ := sget hk
    rw [mixL_step hu] at j3
    refine ok_seq fun K8 h8 => ?_
    refine ok_block ?_
    refine ok_seq fun K9 h9 => ok_region rfl (q_ia (s := byt u) el22 rfl rfl (by omega) (mget hu) (q_ld _ ag5 rfl rfl (q_as _ rfl (run_nil (h9 _ ?_))))); clear h9 K9
    refine ok_seq fun K10 h10 => ok_region rfl (q_mv _ rfl (q_mv _ rfl (q_cv aS5 ik113 rfl (IntWalk.u64_in _ (by have := u.toNat_lt; omega)) (q_bin _ _ _ rfl rfl rfl (q_as _ rfl (run_nil (h10 _ ?_))))))); clear h10 K10
    refine ok_seq fun K11 h11 => ok_region rfl (q_mv _ rfl (q_bin _ _ _ rfl rfl rfl (q_as _ rfl (run_nil (h11 _ ?_))))); clear h11 K11
    refine ok_last fun K12 h12 => ok_region rfl (
      q_mv _ rfl (q_mv _ rfl (q_bin _ _ _ rfl rfl rfl (q_bin _ _ _ rfl rfl rfl (q_as _ rfl (run_nil (h12 _ (h8 _ ?_))))))))
    refine ok_last fun K13 h13 => ok_region rfl (
      q_add rfl rfl (by omega) (q_mv _ rfl (run_nil (h13 _ (⟨(k + 1, mixS hv u), by simp only; omega, ⟨(mixS_in hv u).1, (mixS_in hv u).2, j3⟩, le_same ⟨rfl, rfl, rfl, rfl, trivial⟩⟩)))))
  · refine ok_exit (h3 _ ?_)
    refine ok_seq fun K14 h14 => ok_region rfl (q_mv _ rfl (q_bin (.int .u64 hv) (.int .u64 1) (.int .u64 (hv / 2)) rfl rfl (shr1 rfl) (q_cv aS113 ik3 rfl (IntWalk.i64_in _ (by omega)) (q_as _ rfl (run_nil (h14 _ ?_)))))); clear h14 K14
    refine ok_ret ⟨_, rfl, ?_⟩
    rw [mixL_end (by simpa using c7)] at j3
    rw [mixI, j3]; rfl
@[reducible] def bs (l : List UInt8) : ByteArray := ⟨l.toArray⟩
theorem bs_size (l : List UInt8) : (bs l).size = l.length := by show l.toArray.size = _; simp
theorem bs_of (s : ByteArray) : bs s.data.toList = s := by simp [bs]
theorem len_of (s : ByteArray) : s.data.toList.length = s.size := by simp
theorem bs_app (a b : List UInt8) : bs a ++ bs b = bs (a ++ b) := by
  apply ByteArray.ext; simp [ByteArray.data_append]
theorem catB {a b : List UInt8} (h : a.length + b.length ≤ 9223372036854775807) : vBin .add (.string (bs a)) (.string (bs b)) = some (.string (bs (a ++ b))) := by
  simp only [vBin, vStr, bs_size]
  rw [if_pos h, bs_app]
def qEsc (b : UInt8) : List UInt8 := if (b.toNat : Int) = 34 ∨ (b.toNat : Int) = 92 then [92, b] else [b]
def qBytes (s : List UInt8) : List UInt8 := 34 :: s.flatMap qEsc ++ [34]
def quoteB (s : ByteArray) : List UInt8 := qBytes s.data.toList
theorem qEsc_len (b : UInt8) : (qEsc b).length ≤ 2 := by unfold qEsc; split <;> simp
theorem qFlat_len : ∀ s : List UInt8, (s.flatMap qEsc).length ≤ 2 * s.length
  | [] => by simp
  | b :: s => by
    have := qFlat_len s
    have := qEsc_len b
    simp only [List.flatMap_cons, List.length_append, List.length_cons]; omega
theorem quote_len (s : ByteArray) : (quoteB s).length ≤ 2 * s.size + 2 := by
  have := qFlat_len s.data.toList
  rw [len_of] at this
  simp only [quoteB, qBytes, List.length_cons, List.length_append, List.length_nil, List.cons_append]; omega
def partL (x : Label) : List UInt8 := x.name.data.toList ++ [61] ++ quoteB x.value
def tailL (l : List Label) : List UInt8 := l.flatMap fun x => 44 :: partL x
def joinL : List Label → List UInt8
  | [] => []
  | x :: l => partL x ++ tailL l
def textL (l : List Label) : List UInt8 := [123] ++ joinL l ++ [125]
/-- What is told when k labels are. -/
def accL (l : List Label) (k : Nat) : List UInt8 := [123] ++ joinL (l.take k)
theorem part_len {x : Label} (h : SLabel x) : (partL x).length ≤ 3145735 := by
  obtain ⟨h1, h2⟩ := h
  have := quote_len x.value
  have := len_of x.name
  unfold partL
  simp only [List.length_append, List.length_cons, List.length_nil]; omega
theorem tail_len : ∀ l : List Label, (∀ y ∈ l, SLabel y) → (tailL l).length ≤ 3145736 * l.length
  | [], _ => by simp [tailL]
  | x :: l, h => by
    have := tail_len l (fun y hy => h y (List.mem_cons_of_mem _ hy))
    have := part_len (h x List.mem_cons_self)
    unfold tailL at *
    simp only [List.flatMap_cons, List.length_append, List.length_cons]; omega
theorem join_len : ∀ l : List Label, (∀ y ∈ l, SLabel y) → (joinL l).length ≤ 3145736 * l.length
  | [], _ => by simp [joinL]
  | x :: l, h => by
    have := tail_len l (fun y hy => h y (List.mem_cons_of_mem _ hy))
    have := part_len (h x List.mem_cons_self)
    simp only [joinL, List.length_append, List.length_cons]; omega
theorem acc_len {l : List Label} (hl : l.length ≤ 1048576) (h : ∀ y ∈ l, SLabel y) (k : Nat) : (accL l k).length ≤ 4000000000000 := by
  have := join_len (l.take k) (fun y hy => h y (List.mem_of_mem_take hy))
  have : (l.take k).length ≤ l.length := by simp; omega
  unfold accL
  simp only [List.length_append, List.length_cons, List.length_nil]; omega
theorem join_snoc : ∀ (l : List Label) (x : Label), joinL (l ++ [x]) = if l = [] then partL x else joinL l ++ (44 :: partL x)
  | [], x => by simp [joinL, tailL]
  | y :: l, x => by simp [joinL, tailL]
theorem acc_step {l : List Label} {k : Nat} {x : Label} (h : l[k]? = some x) : accL l (k + 1) = if k = 0 then [123] ++ partL x else accL l k ++ (44 :: partL x) := by
  have hlt := slt h
  unfold accL
  rw [List.take_add_one, h, Option.toList_some, join_snoc]
  by_cases hk : k = 0
  · subst hk; simp
  · have : l.take k ≠ [] := by intro hn; have := congrArg List.length hn; rw [List.length_take, List.length_nil] at this; omega
    rw [if_neg this, if_neg hk]; simp
theorem acc_all {l : List Label} {k : Nat} (h : l.length ≤ k) : accL l k ++ [125] = textL l := by unfold accL textL; rw [List.take_of_length_le h]
theorem join_lib (l : List Label) : Lib.join (l.map partL) [44] = joinL l := by
  cases l with
  | nil => rfl
  | cons x l =>
    rw [List.map_cons, Lib.join_cons, joinL]
    congr 1
    induction l with
    | nil => rfl
    | cons y l ih => simp only [List.map_cons, tailL, List.flatMap_cons, Lib.joinTail, List.flatten_cons] at ih ⊢; rw [ih]; rfl
theorem text_len {l : List Label} (hl : l.length ≤ 1048576) (h : ∀ y ∈ l, SLabel y) : (textL l).length ≤ 4000000000001 := by
  rw [← acc_all (Nat.le_refl l.length)]
  have := acc_len hl h l.length
  simp only [List.length_append, List.length_cons, List.length_nil]; omega
def pre (s : ByteArray) (k : Nat) : List UInt8 := 34 :: (s.data.toList.take k).flatMap qEsc
theorem pre_zero (s : ByteArray) : pre s 0 = [34] := by simp [pre]
theorem pre_step {s : ByteArray} {k : Nat} {b : UInt8} (h : s.data.toList[k]? = some b) : pre s (k + 1) = pre s k ++ qEsc b := by
  unfold pre; rw [List.take_add_one, h, Option.toList_some, List.flatMap_append]; simp
theorem pre_all {s : ByteArray} {k : Nat} (h : s.size ≤ k) : pre s k ++ [34] = quoteB s := by
  unfold pre quoteB qBytes; rw [List.take_of_length_le (by rw [len_of]; exact h)]
theorem pre_len (s : ByteArray) (k : Nat) : (pre s k).length ≤ 2 * s.size + 1 := by
  have h1 := qFlat_len (s.data.toList.take k)
  have h2 : (s.data.toList.take k).length ≤ s.size := by rw [List.length_take, len_of]; omega
  simp only [pre, List.length_cons]; omega
theorem esc_yes {b : UInt8} (h : (decide ((b.toNat : Int) = 34) || decide ((b.toNat : Int) = 92)) = true) (p : List UInt8) : p ++ [92] ++ [b] = p ++ qEsc b := by
  unfold qEsc; rw [if_pos (by simpa using h)]; simp
theorem esc_no {b : UInt8} (h : ¬ (decide ((b.toNat : Int) = 34) || decide ((b.toNat : Int) = 92)) = true) (p : List UInt8) : p ++ [b] = p ++ qEsc b := by
  unfold qEsc; rw [if_neg (by simpa using h)]
theorem f115_ok (s : ByteArray) (hs : s.size ≤ 1048576) : PFn Try.prog 115 [str s] (str (bs (quoteB s))) := by
  refine fn_ok' (n := 35) Try.func115 rfl rfl rfl (Nat.le_of_ble_eq_true rfl) rfl fun w0 O => ?_
  refine ok_seq fun K1 h1 => ok_region rfl (q_as _ rfl (run_nil (h1 _ ?_))); clear h1 K1
  refine ok_seq fun K2 h2 => ok_region rfl (q_lito1 _ (byt 34) el22 ze5 (by decide) (by decide) rfl rfl rfl (.inr rfl) rfl (q_ao _ rfl (run_nil (h2 _ ?_)))); clear h2 K2
  refine ok_seq fun K3 h3 => ?_
  refine ok_seq fun K4 h4 => ok_region rfl (q_mv _ rfl (q_lens st9 rfl (q_mv _ rfl (run_nil (h4 _ ?_))))); clear h4 K4
  refine ok_block ?_
  refine ok_loop (fun (k : Nat) => ⟨[(0, .sv (str s)), (3, .own 5), (7, .sv (int s.size)), (8, .sv (int k))], [(5, .row 1 5 ((pre s k).map byteSV))]⟩) (fun k => True) (fun k => s.size - k) 0 trivial (by rw [pre_zero]; exact le_sub ⟨rfl, rfl, rfl, rfl, trivial⟩ ⟨rfl, trivial⟩) (fun k J => ?_)
  refine ok_seq fun K5 h5 => ok_region rfl (q_bin _ _ _ rfl rfl rfl (run_nil (h5 _ ?_))); clear h5 K5
  refine ok_seq fun K6 h6 => ?_
  refine ok_cond rfl (fun c7 => ?_) (fun c7 => ?_)
  · have hk : k < s.size := by simpa using c7
    have hb := bget' hk
    generalize s.data.toList[k]'(by simpa using hk) = b at hb
    have hp := pre_len s k
    refine ok_skip (h6 _ ?_)
    refine ok_seq fun K8 h8 => ?_
    refine ok_block ?_
    refine ok_seq fun K9 h9 => ok_region rfl (q_mv _ rfl (q_as _ rfl (run_nil (h9 _ ?_)))); clear h9 K9
    refine ok_seq_join (fun (p : List UInt8) => ⟨[(0, .sv (str s)), (3, .own 5), (4, .sv (int k)), (7, .sv (int s.size)), (8, .sv (int k))], [(5, .row 1 5 (p.map byteSV))]⟩) (fun p => p ++ [b] = pre s (k + 1) ∧ p.length ≤ 2 * s.size + 2) ?_ (fun p J => ?_)
    · refine ok_seq fun K10 h10 => ?_
      refine ok_region rfl (q_mv _ rfl (q_mv _ rfl (q_ix st9 rfl rfl (by omega) (bget hb) (q_bin _ _ _ rfl rfl rfl (q_mv _ rfl (q_or 4 4 rfl rfl rfl rfl rfl (fun hb20 =>
          q_mv _ rfl (q_mv _ rfl (q_ix st9 rfl rfl (by omega) (bget hb) (q_bin _ _ _ rfl rfl rfl (run_nil ⟨rfl, rfl, rfl, rfl⟩))))) (
        run_nil (h10 _ ?_))))))))
      clear h10 K10
      refine ok_cond rfl (fun c11 => ?_) (fun c11 => ?_)
      · refine ok_last fun K12 h12 => ok_region rfl (
          q_mo _ rfl (q_lit1 _ (byt 92) el22 ze5 (by decide) (by decide) rfl (.inr rfl) rfl (q_app _ el22 ze5 rfl by5 rfl rfl rfl rfl rfl (by simp) (by intro s hs; simp at hs; subst hs; exact .inr rfl) (by rw [List.length_map]; exact Nat.le_trans (Nat.add_le_add_right hp 1) (by unfold maxLen; omega)) (by rw [List.length_map]; show (_ + 1) * 1 ≤ _; omega) (
          q_ao _ rfl (run_nil (h12 _ (⟨pre s k ++ [92], ⟨by rw [pre_step hb]; exact esc_yes c11 _, by simp; omega⟩, by rw [List.map_append]; exact le_rek 5 23 ⟨rfl, rfl, rfl, rfl, rfl, trivial⟩ ⟨rfl, trivial⟩ rfl rfl rfl rfl ⟨rfl, trivial⟩⟩)))))))
      · refine ok_skip (⟨pre s k, ⟨by rw [pre_step hb]; exact esc_no (by simp [c11]) _, by omega⟩, le_sub ⟨rfl, rfl, rfl, rfl, rfl, trivial⟩ ⟨rfl, trivial⟩⟩)
    · obtain ⟨j1, j2⟩ := J
      refine ok_last fun K13 h13 => ok_region rfl (
        q_mo _ rfl (q_mv _ rfl (q_mv _ rfl (q_ix st9 rfl rfl (by omega) (bget hb) (q_lit1 _ (byt b) el22 ze5 (by decide) (by decide) rfl (.inr rfl) rfl (q_app _ el22 ze5 rfl by5 rfl rfl rfl rfl rfl (by simp) (by intro s hs; simp at hs; subst hs; exact .inr rfl) (by rw [List.length_map]; exact Nat.le_trans (Nat.add_le_add_right j2 1) (by unfold maxLen; omega)) (by rw [List.length_map]; show (_ + 1) * 1 ≤ _; omega) (
        q_ao _ rfl (run_nil (h13 _ (h8 _ ?_))))))))))
      refine ok_last fun K14 h14 => ok_region rfl (
        q_add rfl rfl (by omega) (q_mv _ rfl (run_nil (h14 _ (⟨k + 1, by omega, trivial, ?_⟩)))))
      rw [← j1, List.map_append]
      exact le_rek 5 29 ⟨rfl, rfl, rfl, rfl, trivial⟩ ⟨rfl, trivial⟩ rfl rfl rfl rfl ⟨rfl, trivial⟩
  · have hk : s.size ≤ k := by simpa using c7
    have hp := pre_len s k
    refine ok_exit (h3 _ ?_)
    refine ok_seq fun K15 h15 => ?_
    refine ok_region rfl (q_mo _ rfl (q_lit1 _ (byt 34) el22 ze5 (by decide) (by decide) rfl (.inr rfl) rfl (q_app _ el22 ze5 rfl by5 rfl rfl rfl rfl rfl (by simp) (by intro s hs; simp at hs; subst hs; exact .inr rfl) (by rw [List.length_map]; exact Nat.le_trans (Nat.add_le_add_right hp 1) (by unfold maxLen; omega)) (by rw [List.length_map]; show (_ + 1) * 1 ≤ _; omega) (
      q_cvo (bs := quoteB s) Try.underlying22 Try.underlying5 Try.underlying9 rfl (by rw [← pre_all hk, List.map_append]; rfl) (q_as _ rfl (run_nil (h15 _ ?_)))))))
    clear h15 K15
    exact ok_ret ⟨_, rfl, rfl⟩
/-- One label's text, put together. -/
theorem part_bin1 (x : Label) (h : SLabel x) : vBin .add (.string x.name) (.string (bs [61])) = some (.string (bs (x.name.data.toList ++ [61]))) := by
  have := catB (a := x.name.data.toList) (b := [61]) (by have := h.1; rw [len_of]; simp only [List.length_cons, List.length_nil]; omega)
  rw [bs_of] at this; exact this
theorem part_bin2 (x : Label) (h : SLabel x) : vBin .add (.string (bs (x.name.data.toList ++ [61]))) (.string (bs (quoteB x.value))) = some (.string (bs (partL x))) := by
  have h1 := part_len h
  unfold partL at h1 ⊢
  exact catB (by rw [← List.length_append]; omega)
theorem map_bs (x : List Label) : (x.map fun y => bs (partL y)).map (·.data.toList) = x.map partL := by simp [Function.comp_def]
theorem f116_ok (x : List Label) (hx : x.length ≤ 1048576 ∧ ∀ y ∈ x, SLabel y) : PFn Try.prog 116 [.sl 1 (x.map fun y => str (bs (partL y))), str (bs [44])] (str (bs (joinL x))) := by
  have h1 := join_len x hx.2
  have h := pfn_join Try.lays156 Try.Builder_Extra_156 (x.map fun y => bs (partL y)) (bs [44]) (by rw [List.length_map]; omega) (by rw [map_bs]; show (Lib.join _ [44]).length ≤ _; rw [join_lib]; omega)
  rw [map_bs] at h
  have e : Lib.join (x.map partL) (bs [44]).data.toList = joinL x := join_lib x
  rw [e, List.map_map] at h
  exact h
theorem row_snoc {x : List Label} {k : Nat} {u : Label} (h : x[k]? = some u) : (x.take (k + 1)).map (fun y => str (bs (partL y))) = (x.take k).map (fun y => str (bs (partL y))) ++ [str (bs (partL u))] := by rw [List.take_add_one, h, Option.toList_some, List.map_append]; rfl
noncomputable def labText (x : List Label) : ByteArray := if pB (LabelsOk x) = true then bs (textL x) else bs []
theorem f33_ok (x : List Label) (hx : x.length ≤ 1048576 ∧ ∀ y ∈ x, SLabel y) : PFn Try.prog 33 [eLabelS x] (str (labText x)) := by
  refine fn_ok' (n := 30) Try.func33 rfl rfl rfl (Nat.le_of_ble_eq_true rfl) rfl fun w0 O => ?_
  refine ok_seq fun K1 h1 => ok_region rfl (q_as _ rfl (run_nil (h1 _ ?_))); clear h1 K1
  refine ok_seq fun K2 h2 => ?_
  refine ok_seq fun K3 h3 => ok_region rfl (q_mv _ rfl (q_call (f109_ok x hx) cl109 rfl rfl (q_un _ _ rfl rfl (run_nil (h3 _ ?_))))); clear h3 K3
  refine ok_cond rfl (fun c4 => ?_) (fun c4 => ?_)
  · refine ok_seq fun K5 h5 => ?_
    refine ok_region rfl (q_as _ rfl (run_nil (h5 _ ?_)))
    clear h5 K5
    refine ok_ret ⟨_, rfl, ?_⟩
    have hg : ¬ pB (LabelsOk x) = true := by simpa using c4
    rw [labText, if_neg hg]; rfl
  · have hg : pB (LabelsOk x) = true := by simpa using c4
    refine ok_skip (h2 _ ?_)
    refine ok_seq fun K6 h6 => ok_region rfl (q_an (n := 1) 9 (by decide) rfl rfl rfl (run_nil (h6 _ ?_))); clear h6 K6
    refine ok_seq fun K7 h7 => ?_
    refine ok_seq fun K8 h8 => ok_region rfl (q_mv _ rfl (q_len eS61 rfl (q_mv _ rfl (run_nil (h8 _ ?_))))); clear h8 K8
    rw [List.length_map]
    refine ok_block ?_
    refine ok_loop (fun (k : Nat) => ⟨[(3, .own 3), (9, .sv (eLabelS x)), (10, .sv (int x.length)), (11, .sv (int k))], [(3, .row 1 9 ((x.take k).map fun y => str (bs (partL y))))]⟩) (fun k => True) (fun k => x.length - k) 0 trivial (le_sub ⟨rfl, rfl, rfl, rfl, trivial⟩ ⟨rfl, trivial⟩) (fun k J => ?_)
    refine ok_seq fun K9 h9 => ok_region rfl (q_bin _ _ _ rfl rfl rfl (run_nil (h9 _ ?_))); clear h9 K9
    refine ok_seq fun K10 h10 => ?_
    refine ok_cond rfl (fun c11 => ?_) (fun c11 => ?_)
    · have hk : k < x.length := by simpa using c11
      obtain ⟨u, hu⟩ := sget hk
      have hS := hx.2 u (smem hu)
      have htl : (x.take k).length ≤ x.length := by rw [List.length_take]; omega
      have hx1 := hx.1
      refine ok_skip (h10 _ ?_)
      refine ok_seq fun K12 h12 => ?_
      refine ok_block ?_
      refine ok_seq fun K13 h13 => ok_region rfl (q_ia el61 rfl rfl (by omega) (mget hu) (q_lds _ ag71 rfl sz71 (q_alloc _ ze71 rfl rfl rfl rfl (q_sts _ rfl rfl rfl sz71 (Nat.le_of_ble_eq_true rfl) rfl (run_nil (h13 _ ?_)))))); clear h13 K13
      refine ok_last fun K14 h14 => ok_region_i (by kernel_rfl) (by kernel_rfl) rfl (
        q_mo _ rfl (q_fap fd71_0 rfl (by decide) (q_ldb _ ag9 rfl rfl rfl (q_bin _ _ _ rfl rfl (part_bin1 u hS) (q_fap fd71_1 rfl (by decide) (q_ldb _ ag9 rfl rfl rfl (q_call (f115_ok u.value hS.2) cl115 rfl rfl (
        q_bin _ _ _ rfl rfl (part_bin2 u hS) (q_lit1 _ (str (bs (partL u))) el27 ze9 (by decide) (by decide) rfl (.inr rfl) rfl (q_app _ el27 ze9 rfl by9 rfl rfl rfl rfl rfl (by simp) (by intro s hs; simp at hs; subst hs; exact .inr rfl) (by rw [List.length_map]; exact Nat.le_trans (Nat.add_le_add_right htl 1) (by unfold maxLen; omega)) (by rw [List.length_map]; show (_ + 1) * 16 ≤ _; omega) (
        q_ao _ rfl (run_nil (h14 _ (h12 _ ?_))))))))))))))
      refine ok_last fun K15 h15 => ok_region rfl (
        q_add rfl rfl (by omega) (q_mv _ rfl (run_nil (h15 _ (⟨k + 1, by omega, trivial, ?_⟩)))))
      rw [row_snoc hu]
      exact le_rek 3 24 ⟨rfl, rfl, rfl, rfl, trivial⟩ ⟨rfl, trivial⟩ rfl rfl rfl rfl ⟨rfl, trivial⟩
    · have hk : x.length ≤ k := by simpa using c11
      have hj := join_len x hx.2
      have hx1 := hx.1
      rw [List.take_of_length_le hk]
      refine ok_exit (h7 _ ?_)
      refine ok_seq fun K16 h16 => ok_region rfl (q_mo _ rfl (q_call (f116_ok x hx) cl116 rfl rfl (q_bin _ _ _ rfl rfl (catB (a := [123]) (by simp only [List.length_cons, List.length_nil]; omega)) (q_bin _ _ _ rfl rfl (catB (b := [125]) (by simp only [List.length_append, List.length_cons, List.length_nil]; omega)) (q_as _ rfl (run_nil (h16 _ ?_))))))); clear h16 K16
      refine ok_ret ⟨_, rfl, ?_⟩
      rw [labText, if_pos hg]; rfl
theorem lab_len {x : List Label} (hx : x.length ≤ 1048576 ∧ ∀ y ∈ x, SLabel y) : (labText x).data.toList.length ≤ 9223372036854775807 := by
  have h := text_len hx.1 hx.2
  rw [len_of, labText]
  split <;> rw [bs_size]
  · omega
  · decide
noncomputable def hashL (x : List Label) : Int := mixI (labText x).data.toList
theorem f37_ok (x : List Label) (hx : x.length ≤ 1048576 ∧ ∀ y ∈ x, SLabel y) : PFn Try.prog 37 [eLabelS x] (int (hashL x)) := by
  refine fn_ok' (n := 7) Try.func37 rfl rfl rfl (Nat.le_of_ble_eq_true rfl) rfl fun w0 O => ?_
  refine ok_seq fun K1 h1 => ok_region rfl (q_as _ rfl (run_nil (h1 _ ?_))); clear h1 K1
  refine ok_seq fun K2 h2 => ok_region rfl (q_mv _ rfl (q_call (f33_ok x hx) cl33 rfl rfl (q_cvb Try.underlying9 Try.underlying22 Try.underlying5 rfl (q_call (f121_ok _ (lab_len hx)) cl121 rfl rfl (q_as _ rfl (run_nil (h2 _ ?_))))))); clear h2 K2
  exact ok_ret ⟨_, rfl, rfl⟩
noncomputable def placeL (x : List Label) : Int := if pB (LabelsOk x) = true then (hashL x).tmod 2147483648 else 0
end Go.Ring
