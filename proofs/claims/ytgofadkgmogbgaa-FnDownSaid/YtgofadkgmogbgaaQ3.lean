/- A quoted text read back; labels read back from their text: the program. No condition beyond the lengths. -/
import Derived.Test.YtgofadkgmogbgaaQ2
set_option maxRecDepth 100000
set_option linter.unusedVariables false
set_option linter.unusedSimpArgs false
namespace Go.Ring
open Go Go.RowKit Go.Eager Go.Abs Go.Proofs
theorem dropQ {α : Type} {l : List α} {k : Nat} {x : α} (h : l[k]? = some x) : l.drop k = x :: l.drop (k + 1) := by
  obtain ⟨hlt, he⟩ := List.getElem?_eq_some_iff.1 h
  rw [List.drop_eq_getElem_cons hlt, he]
/-- Where a quoted text has got to, k bytes read. -/
def posQ (L : List UInt8) (k : Nat) : Nat := 1 + ((L.take k).flatMap qEsc).length
theorem posQ_step {L : List UInt8} {k : Nat} {c : UInt8} (h : L[k]? = some c) : posQ L (k + 1) = posQ L k + (qEsc c).length := by
  unfold posQ
  rw [List.take_add_one, h, Option.toList_some, List.flatMap_append, List.length_append]
  simp
  omega
theorem text_at (L r : List UInt8) (k : Nat) : qBytes L ++ r = (34 :: (L.take k).flatMap qEsc) ++ ((L.drop k).flatMap qEsc ++ 34 :: r) := by
  unfold qBytes
  conv => lhs; rw [← List.take_append_drop k L, List.flatMap_append]
  simp
theorem text_get (L r : List UInt8) (k i : Nat) : (qBytes L ++ r)[posQ L k + i]? = ((L.drop k).flatMap qEsc ++ 34 :: r)[i]? := by
  rw [text_at L r k, List.getElem?_append_right (by unfold posQ; simp; omega)]
  congr 1
  unfold posQ
  simp
  omega
theorem text_size (L r : List UInt8) (k : Nat) : posQ L k ≤ (qBytes L ++ r).length := by
  rw [text_at L r k]
  unfold posQ
  simp only [List.length_append, List.length_cons]
  omega
theorem byte_eq (b : UInt8) (n : Nat) (hn : n < 256) : ((b.toNat : Int) = (n : Int)) ↔ b = UInt8.ofNat n := by
  rw [← UInt8.toNat_inj, UInt8.toNat_ofNat', Nat.mod_eq_of_lt hn]
  omega
theorem f182_q (v : ByteArray) (r : List UInt8) (hv : v.size ≤ 1000000) (hr : r.length ≤ 1000000000000) : PFn Try.prog 182 [str (bs (quoteB v ++ r))] (.tup [str v, str (bs r), bool true]) := by
  generalize hL : v.data.toList = L
  have hLl : L.length = v.size := by rw [← hL]; simp
  have hT : quoteB v ++ r = qBytes L ++ r := by unfold quoteB; rw [hL]
  rw [hT]
  generalize hTT : qBytes L ++ r = T
  have hfl := qFlat_len L
  have hTl : T.length ≤ 1000003000000 := by rw [← hTT]; unfold qBytes; simp only [List.length_append, List.length_cons, List.length_nil]; omega
  have hTs : (bs T).size = T.length := bs_size T
  have hps : ∀ k, posQ L k ≤ T.length := fun k => by rw [← hTT]; exact text_size L r k
  have hget : ∀ k i, T[posQ L k + i]? = ((L.drop k).flatMap qEsc ++ 34 :: r)[i]? := fun k i => by rw [← hTT]; exact text_get L r k i
  refine fn_ok' (n := 57) Try.func182 rfl rfl rfl (Nat.le_of_ble_eq_true rfl) rfl fun w0 O => ?_
  refine ok_seq fun K1 h1 => ok_region rfl (q_as _ rfl (q_as _ rfl (q_as _ rfl (run_nil (h1 _ ?_))))); clear h1 K1
  have hT0 : T[0]? = some 34 := by rw [← hTT]; rfl
  have hb0 : (bs T)[0]? = some 34 := bget (s := bs T) hT0
  have hne : decide ((bs T).data.toList = (⟨#[]⟩ : ByteArray).data.toList) = false := by
    rw [decide_eq_false_iff_not, bs_toList]
    intro h
    have : T = [] := h
    rw [this] at hT0
    cases hT0
  refine ok_seq fun K2 h2 => ?_
  refine ok_seq fun K3 h3 => ?_
  refine ok_region rfl (q_mv (str (bs T)) rfl (q_bin _ _ _ rfl rfl rfl (q_mv _ rfl (q_or (b2 := false) 3 3 rfl rfl rfl rfl rfl (fun hb13 =>
      q_mv (str (bs T)) rfl (q_ix (b := 34) st9 rfl rfl (by omega) hb0 (q_bin _ _ _ rfl rfl rfl (run_nil ⟨rfl, rfl, rfl, rfl⟩)))) (
    run_nil (h3 _ ?_))))))
  clear h3 K3
  rw [hne]
  refine ok_cond rfl (fun c => absurd c (by simp)) (fun c => ?_)
  refine ok_skip (h2 _ ?_); clear h2 K2
  refine ok_seq fun K1 h1 => ok_region rfl (q_an (n := 1) 5 (by decide) rfl rfl rfl (run_nil (h1 _ ?_))); clear h1 K1
  refine ok_seq fun K4 h4 => ?_
  refine ok_seq fun K1 h1 => ok_region rfl (q_as _ rfl (run_nil (h1 _ ?_))); clear h1 K1
  refine ok_block ?_
  refine ok_loop (fun (k : Nat) => ⟨[(0, .sv (str (bs T))), (5, .own 5), (6, .sv (int (posQ L k)))], [(5, .row 1 5 ((L.take k).map byteSV))]⟩) (fun k => k ≤ L.length) (fun k => L.length - k) 0 (Nat.zero_le _) (le_sub ⟨rfl, rfl, rfl, trivial⟩ ⟨rfl, trivial⟩) (fun k J => ?_)
  have hlk : posQ L k < T.length := by
    have h0 := hget k 0
    obtain ⟨x, hx⟩ : ∃ x, ((L.drop k).flatMap qEsc ++ 34 :: r)[0]? = some x := by
      cases hd : (L.drop k).flatMap qEsc with
      | nil => exact ⟨_, rfl⟩
      | cons a l => exact ⟨_, rfl⟩
    have := (List.getElem?_eq_some_iff.1 (h0.trans hx)).1
    omega
  refine ok_seq fun K5 h5 => ?_
  refine ok_seq fun K6 h6 => ok_region rfl (q_mv (int (posQ L k)) rfl (q_mv (str (bs T)) rfl (q_lens st9 rfl (q_bin _ _ _ rfl rfl rfl (run_nil (h6 _ ?_))))))
  clear h6 K6
  refine ok_cond rfl (fun c => ?_) (fun c => absurd c (by rw [hTs]; simp; omega))
  refine ok_skip (h5 _ ?_)
  by_cases hk : k < L.length
  · obtain ⟨u, hu⟩ := sget hk
    have hstep := posQ_step hu
    have hdr : (L.drop k).flatMap qEsc ++ 34 :: r = qEsc u ++ ((L.drop (k + 1)).flatMap qEsc ++ 34 :: r) := by
      rw [dropQ hu, List.flatMap_cons, List.append_assoc]
    refine ok_seq_join (fun (_ : Unit) => ⟨[(0, .sv (str (bs T))), (5, .own 5), (6, .sv (int (posQ L (k + 1) - 1 : Nat)))], [(5, .row 1 5 ((L.take (k + 1)).map byteSV))]⟩) (fun _ => True) ?_ (fun _ _ => ?_)
    · refine ok_block ?_
      have e9 : (L.take k).map byteSV ++ [byteSV u] = (L.take (k + 1)).map byteSV := by rw [List.take_add_one, hu, List.map_append]; rfl
      have htl : ((L.take k).map byteSV).length ≤ 1000000 := by rw [List.length_map, List.length_take]; omega
      by_cases he : (u.toNat : Int) = 34 ∨ (u.toNat : Int) = 92
      · have hq : qEsc u = [92, u] := by unfold qEsc; rw [if_pos he]
        rw [hq] at hdr hstep
        have g0 : T[posQ L k]? = some 92 := by have := hget k 0; rw [Nat.add_zero, hdr] at this; exact this
        have g1 : T[posQ L k + 1]? = some u := by have := hget k 1; rw [hdr] at this; exact this
        have hl1 : posQ L k + 1 < T.length := (List.getElem?_eq_some_iff.1 g1).1
        have b0 : (bs T)[posQ L k]? = some 92 := bget (s := bs T) g0
        have b1 : (bs T)[((posQ L k : Int) + 1).toNat]? = some u := by rw [show ((posQ L k : Int) + 1).toNat = posQ L k + 1 by omega]; exact bget (s := bs T) g1
        refine ok_seq fun K7 h7 => ?_
        refine ok_seq fun K8 h8 => ok_region rfl (q_mv (str (bs T)) rfl (q_mv (int (posQ L k)) rfl (q_ix (b := 92) st9 rfl rfl (by omega) b0 (run_nil (h8 _ ?_)))))
        clear h8 K8
        refine ok_block ?_
        refine ok_seq fun K8 h8 => ok_region rfl (q_bin _ _ _ rfl rfl rfl (q_as _ rfl (run_nil (h8 _ ?_))))
        clear h8 K8
        refine ok_cond rfl (fun c => absurd c (by decide)) (fun c => ?_)
        refine ok_seq fun K8 h8 => ok_region rfl (q_bin _ _ _ rfl rfl rfl (q_as _ rfl (run_nil (h8 _ ?_))))
        clear h8 K8
        refine ok_cond rfl (fun c => ?_) (fun c => absurd c (by decide))
        refine ok_seq fun K8 h8 => ok_region rfl (q_mv (int (posQ L k)) rfl (q_add rfl rfl (by omega) (q_as _ rfl (run_nil (h8 _ ?_)))))
        clear h8 K8
        refine ok_seq fun K8 h8 => ?_
        refine ok_region rfl (q_mv (int ((posQ L k : Int) + 1)) rfl (q_mv (str (bs T)) rfl (q_lens st9 rfl (q_bin _ _ _ rfl rfl rfl (q_mv _ rfl (q_or (b2 := false) 10 6 rfl rfl rfl rfl rfl (fun hb =>
            q_mv (str (bs T)) rfl (q_mv (int ((posQ L k : Int) + 1)) rfl (q_ix (b := u) st9 rfl rfl (by omega) b1 (q_bin _ _ _ rfl rfl rfl (q_mv _ rfl (q_and (b2 := decide ((u.toNat : Int) ≠ 92)) 4 4 rfl rfl rfl rfl rfl (fun hb2 =>
                q_mv (str (bs T)) rfl (q_mv (int ((posQ L k : Int) + 1)) rfl (q_ix (b := u) st9 rfl rfl (by omega) b1 (q_bin _ _ _ rfl rfl rfl (run_nil ⟨rfl, rfl, rfl, rfl⟩))))) (
              run_nil ⟨rfl, rfl, rfl, by show LV.sv (.raw (.bool (decide ((u.toNat : Int) ≠ 34) && decide ((u.toNat : Int) ≠ 92)))) = _; rcases he with h | h <;> rw [h] <;> rfl⟩))))))) (
          run_nil (h8 _ ?_))))))))
        clear h8 K8
        have hne2 : decide (((posQ L k : Nat) : Int) + 1 = ((bs T).size : Nat)) = false := decide_eq_false (by rw [hTs]; omega)
        rw [hne2]
        refine ok_cond rfl (fun c => absurd c (by simp)) (fun c => ?_)
        refine ok_skip (h7 _ ?_)
        refine ok_last fun K9 h9 => ok_region rfl (q_mo 5 rfl (q_mv (str (bs T)) rfl (q_mv (int ((posQ L k : Int) + 1)) rfl (q_ix (b := u) st9 rfl rfl (by omega) b1 (q_lit1 _ (byteSV u) el22 ze5 (by decide) (by decide) rfl (.inr rfl) rfl (q_app (q := [byteSV u]) _ el22 ze5 rfl by5 rfl rfl rfl rfl rfl (by simp) (by intro s hs; simp at hs; subst hs; exact .inr rfl) (by show _ + 1 ≤ maxLen; unfold maxLen; omega) (by show (_ + 1) * 1 ≤ _; omega) (q_ao _ rfl (run_nil (h9 _ ?_)))))))))
        refine ⟨(), trivial, ?_⟩
        rw [show (((posQ L (k + 1) - 1 : Nat) : Nat) : Int) = (posQ L k : Int) + 1 by rw [hstep]; simp, ← e9]
        exact le_rek 5 56 ⟨rfl, rfl, rfl, trivial⟩ ⟨rfl, trivial⟩ rfl rfl rfl rfl ⟨rfl, trivial⟩
      · have hq : qEsc u = [u] := by unfold qEsc; rw [if_neg he]
        rw [hq] at hdr hstep
        have g0 : T[posQ L k]? = some u := by have := hget k 0; rw [Nat.add_zero, hdr] at this; exact this
        have b0 : (bs T)[posQ L k]? = some u := bget (s := bs T) g0
        have n34 : decide ((u.toNat : Int) = 34) = false := decide_eq_false fun h => he (.inl h)
        have n92 : decide ((u.toNat : Int) = 92) = false := decide_eq_false fun h => he (.inr h)
        refine ok_seq fun K7 h7 => ?_
        refine ok_seq fun K8 h8 => ok_region rfl (q_mv (str (bs T)) rfl (q_mv (int (posQ L k)) rfl (q_ix (b := u) st9 rfl rfl (by omega) b0 (run_nil (h8 _ ?_)))))
        clear h8 K8
        refine ok_block ?_
        refine ok_seq fun K8 h8 => ok_region rfl (q_bin _ _ (.bool (decide ((u.toNat : Int) = 34))) rfl rfl rfl (q_as _ rfl (run_nil (h8 _ ?_))))
        clear h8 K8
        rw [n34]
        refine ok_cond rfl (fun c => absurd c (by decide)) (fun c => ?_)
        refine ok_seq fun K8 h8 => ok_region rfl (q_bin _ _ (.bool (decide ((u.toNat : Int) = 92))) rfl rfl rfl (q_as _ rfl (run_nil (h8 _ ?_))))
        clear h8 K8
        rw [n92]
        refine ok_cond rfl (fun c => absurd c (by decide)) (fun c => ?_)
        refine ok_skip (h7 _ ?_)
        refine ok_last fun K9 h9 => ok_region rfl (q_mo 5 rfl (q_mv (str (bs T)) rfl (q_mv (int (posQ L k)) rfl (q_ix (b := u) st9 rfl rfl (by omega) b0 (q_lit1 _ (byteSV u) el22 ze5 (by decide) (by decide) rfl (.inr rfl) rfl (q_app (q := [byteSV u]) _ el22 ze5 rfl by5 rfl rfl rfl rfl rfl (by simp) (by intro s hs; simp at hs; subst hs; exact .inr rfl) (by show _ + 1 ≤ maxLen; unfold maxLen; omega) (by show (_ + 1) * 1 ≤ _; omega) (q_ao _ rfl (run_nil (h9 _ ?_)))))))))
        refine ⟨(), trivial, ?_⟩
        rw [show (((posQ L (k + 1) - 1 : Nat) : Nat) : Int) = (posQ L k : Int) by rw [hstep]; simp, ← e9]
        exact le_rek 5 56 ⟨rfl, rfl, rfl, trivial⟩ ⟨rfl, trivial⟩ rfl rfl rfl rfl ⟨rfl, trivial⟩
    · have hp := hps (k + 1)
      have hp1 : 1 ≤ posQ L (k + 1) := by unfold posQ; omega
      refine ok_last fun K10 h10 => ok_region rfl (q_mv (int (posQ L (k + 1) - 1 : Nat)) rfl (q_add rfl rfl (by omega) (q_as _ rfl (run_nil (h10 _ ⟨k + 1, by omega, hk, ?_⟩)))))
      rw [show (((posQ L (k + 1) - 1 : Nat) : Nat) : Int) + 1 = (posQ L (k + 1) : Int) by omega]
      exact le_sub ⟨rfl, rfl, rfl, trivial⟩ ⟨rfl, trivial⟩
  · have hke : k = L.length := by omega
    subst hke
    have g0 : T[posQ L L.length]? = some 34 := by have := hget L.length 0; rw [Nat.add_zero, List.drop_length] at this; exact this
    have b0 : (bs T)[posQ L L.length]? = some 34 := bget (s := bs T) g0
    rw [List.take_length]
    refine ok_seq fun K7 h7 => ?_
    refine ok_block ?_
    refine ok_seq fun K9 h9 => ?_
    refine ok_seq fun K8 h8 => ok_region rfl (q_mv (str (bs T)) rfl (q_mv (int (posQ L L.length)) rfl (q_ix (b := 34) st9 rfl rfl (by omega) b0 (run_nil (h8 _ ?_)))))
    clear h8 K8
    refine ok_block ?_
    refine ok_seq fun K8 h8 => ok_region rfl (q_bin _ _ _ rfl rfl rfl (q_as _ rfl (run_nil (h8 _ ?_))))
    clear h8 K8
    refine ok_cond rfl (fun c => ?_) (fun c => absurd c (by decide))
    refine ok_seq fun K8 h8 => ok_region_d [0, 3, 0, 0, 0, 0, 0, 0, 0] #[[], [0], [], [], [3], [2, 3, 4], [0, 1], [0, 1, 2, 3, 4, 5, 6], [0, 1, 2, 3, 4, 5, 6, 7]] [0, 2, 3, 4, 5, 1, 6, 7, 8] (by kernel_rfl) (by kernel_rfl) rfl rfl (q_mo 5 rfl (q_mv (str (bs T)) rfl (q_mv (int (posQ L L.length)) rfl (q_add (p := (posQ L L.length : Int)) (q := 1) rfl rfl (by omega) (q_ss ((posQ L L.length : Int) + 1) (bs T).size st9 rfl (.inr ⟨_, _, rfl, rfl⟩) (.inl ⟨rfl, rfl⟩) (by omega) (by omega) (by omega) (q_cvo (bs := L) Try.underlying22 Try.underlying5 Try.underlying9 rfl rfl (q_as _ rfl (q_as _ rfl (q_as _ rfl (run_nil (h8 _ ?_)))))))))))
    refine ok_ret ⟨_, rfl, ?_⟩
    have e1 : (bs T).extract ((posQ L L.length : Int) + 1).toNat (((bs T).size : Nat) : Int).toNat = bs r := by
      rw [bs_extract, show ((posQ L L.length : Int) + 1).toNat = posQ L L.length + 1 by omega, Int.toNat_natCast, List.take_of_length_le (by rw [hTs]; simp), ← hTT, text_at L r L.length, List.drop_length]
      have : posQ L L.length + 1 = ((34 :: (L.take L.length).flatMap qEsc) ++ [34]).length := by unfold posQ; simp; omega
      rw [this]
      congr 1
      rw [show (34 :: (L.take L.length).flatMap qEsc) ++ (([] : List UInt8).flatMap qEsc ++ 34 :: r) = ((34 :: (L.take L.length).flatMap qEsc) ++ [34]) ++ r by simp, List.drop_left' rfl]
    have e2 : (⟨L.toArray⟩ : ByteArray) = v := by rw [← hL]
    rw [e1, e2]; rfl
end Go.Ring
