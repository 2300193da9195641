/- The law of patterns: a drawn text fits a drawn good pattern just where it has parts, and these are no longer than it. No condition. -/
import Derived.Test.YtgofadkgmogbgaaD5
import Derived.Test.YtgofadkgmogbgaaEg2
set_option maxRecDepth 100000
set_option linter.unusedVariables false
set_option linter.unusedSimpArgs false
namespace Go.Ring
open Go Go.RowKit Go.Eager Go.Abs Go.Proofs
theorem bz115 (code : List UInt8) : BLz Try.prog 115 [eCode code] [.int .i64 0, .int .u64 0] := by
  intro vs hv
  match vs, hv with
  | [u0], hv =>
    obtain ⟨⟨p0, n0, c0, e0⟩, -⟩ := hv
    rw [e0]
    have key : ∀ (p0 : Option Addr) (n0 c0 : Nat), Try.prog.built 115 [(0, .slice p0 n0 c0)] = some #[.slice p0 n0 c0, .int .i64 0, .int .u64 0] := by intro p0 n0 c0; kernel_rfl
    exact key p0 n0 c0
theorem f10_r (code : List UInt8) (hc : code.length ≤ 1048576) : PFnR Try.prog 10 [eCode code] (fun r => ∃ p s : ByteArray, r = .tup [str p, str s] ∧ p.size ≤ 10 ∧ s.size ≤ 320) := by
  refine fnp_ok (n := 27) Try.func10 rfl rfl rfl (Nat.le_of_ble_eq_true rfl) rfl fun w0 O => ?_
  refine ok_seq fun K1 h1 => ok_region rfl (q_as _ rfl (q_as _ rfl (run_nil (h1 _ ?_)))); clear h1 K1
  refine ok_seq fun K1 h1 => ok_region rfl (q_mv (eCode code) rfl (q_bldz [eCode code] [int 0, .raw (.int .u64 0)] (bz115 code) ⟨raw_z _ _, raw_z _ _, trivial⟩ rfl rfl rfl (q_boxo (cells := [.sv (eCode code), .sv (int 0), .sv (.raw (.int .u64 0))]) _ rfl (.inl ⟨_, rfl⟩) rfl rfl rfl (q_ap 9 0 rfl (run_nil (h1 _ ?_))))))
  clear h1 K1
  have hc0 : CurOk code 0 0 := ⟨hc, by omega, by omega, by omega⟩
  refine Ok.le (σ' := ⟨[(4, .ptr 9 0)], [(9, curB code 0 0)]⟩) (le_sub ⟨rfl, trivial⟩ ⟨rfl, trivial⟩) ?_
  let ls : List ByteArray := [⟨#[42, 97, 42]⟩, ⟨#[42, 45, 42, 124, 42]⟩, ⟨#[42, 98, 63, 42]⟩, ⟨#[97, 42, 97, 42]⟩, ⟨#[63, 42]⟩, ⟨#[42, 42]⟩]
  have hall : ∀ x ∈ ls, x.size ≤ 10 := by
    intro x hx
    simp only [ls, List.mem_cons, List.not_mem_nil, or_false] at hx
    rcases hx with h | h | h | h | h | h <;> subst h <;> decide
  refine ok_seq fun K1 h1 => ok_region rfl (q_mp 9 0 rfl (q_lit _ (ls.map str) el27 ze9 (by decide) rfl (by decide) rfl rfl (by intro s hs; obtain ⟨x, _, rfl⟩ := List.mem_map.1 hs; exact ⟨.inr rfl, rfl⟩) (q_dr (sa := [.sl 1 (ls.map str)]) 9 (f63_ok code 0 0 hc0 (by omega) ls (by decide) (by decide)) cl63 rfl rfl rfl rfl rfl (fun s a1 seed1 hs ha1 ha2 hc1 => ?_))))
  obtain ⟨p, hp, rfl⟩ := hs
  have hp1 := hall p hp
  refine q_as _ rfl (run_nil (h1 _ ?_)); clear h1 K1
  refine ok_seq_join (fun (v : ByteArray × Int × Int) => ⟨[(4, .ptr 9 0), (5, .sv (str v.1))], [(9, curB code v.2.1 v.2.2)]⟩) (fun v => v.1.size ≤ 10 ∧ v.2.1 ≤ 100 ∧ CurOk code v.2.1 v.2.2) ?_ (fun v J => ?_)
  · refine ok_seq fun K2 h2 => ok_region rfl (q_mp 9 0 rfl (q_dr (sa := [int 3]) 9 (f64_ok code a1 seed1 hc1 (by omega) 3 (by omega)) cl64 rfl rfl rfl rfl rfl (fun s a2 seed2 hs hb1 hb2 hc2 => ?_)))
    obtain ⟨b, rfl⟩ := hs
    refine run_nil (h2 _ ?_); clear h2 K2
    refine ok_cond rfl (fun c => ?_) (fun c => ?_)
    · refine ok_last fun K3 h3 => ok_region rfl (q_mp 9 0 rfl (q_dr (sa := []) 9 (f65_ok code a2 seed2 hc2 (by omega)) cl65 rfl rfl rfl rfl rfl (fun s a3 seed3 hs hd1 hd2 hc3 => ?_)))
      obtain ⟨x, rfl, hx⟩ := hs
      refine q_as _ rfl (run_nil (h3 _ ?_))
      exact ⟨(x, a3, seed3), ⟨hx, by simp only; omega, hc3⟩, le_sub ⟨rfl, rfl, trivial⟩ ⟨rfl, trivial⟩⟩
    · exact ok_skip ⟨(p, a2, seed2), ⟨hp1, by simp only; omega, hc2⟩, le_sub ⟨rfl, rfl, trivial⟩ ⟨rfl, trivial⟩⟩
  · obtain ⟨p, a3, seed3⟩ := v
    obtain ⟨j1, j2, j3⟩ := J
    simp only at j1 j2 j3
    refine ok_seq fun K2 h2 => ok_region rfl (q_mp 9 0 rfl (q_mv (str p) rfl (q_dr (sa := [str p]) 9 (f66_ok code a3 seed3 j3 (by omega) p (by omega)) cl66 rfl rfl rfl rfl rfl (fun s a4 seed4 hs hb1 hb2 hc4 => ?_))))
    obtain ⟨t, rfl, ht⟩ := hs
    refine q_as _ rfl (run_nil (h2 _ ?_)); clear h2 K2
    refine ok_seq_join (fun (v : ByteArray) => ⟨[(5, .sv (str p)), (6, .sv (str v))], []⟩) (fun v => v.size ≤ 320) ?_ (fun v J => ?_)
    · refine ok_seq fun K2 h2 => ok_region rfl (q_mp 9 0 rfl (q_dr (sa := [int 3]) 9 (f64_ok code a4 seed4 hc4 (by omega) 3 (by omega)) cl64 rfl rfl rfl rfl rfl (fun s a5 seed5 hs hd1 hd2 hc5 => ?_)))
      obtain ⟨b, rfl⟩ := hs
      refine run_nil (h2 _ ?_); clear h2 K2
      refine ok_cond rfl (fun c => ?_) (fun c => ?_)
      · refine ok_last fun K3 h3 => ok_region rfl (q_mp 9 0 rfl (q_mv (str t) rfl (q_dr (sa := [str t, str ⟨#[97, 98, 45, 49]⟩]) 9 (f67_ok code a5 seed5 hc5 (by omega) t ⟨#[97, 98, 45, 49]⟩ (by omega) (by decide) (by decide)) cl67 rfl rfl rfl rfl rfl (fun s a6 seed6 hs he1 he2 hc6 => ?_))))
        obtain ⟨x, rfl, hx⟩ := hs
        refine q_as _ rfl (run_nil (h3 _ ?_))
        exact ⟨x, by omega, le_sub ⟨rfl, rfl, trivial⟩ trivial⟩
      · exact ok_skip ⟨t, by omega, le_sub ⟨rfl, rfl, trivial⟩ trivial⟩
    · refine ok_seq fun K2 h2 => ok_region rfl (q_mv (str p) rfl (q_mv (str v) rfl (q_as _ rfl (q_as _ rfl (run_nil (h2 _ ?_))))))
      refine ok_ret ⟨_, ⟨_, _, rfl, ⟨_, _, rfl, rfl, rfl⟩, rfl⟩, ⟨p, v, rfl, j1, J⟩, fun b hb => ?_⟩
      have hb : Zn b (.tup [str p, str v]) := hb
      simp only [znT_cons, znT_nil, znI_raw, or_false, false_or] at hb
theorem f12_g (p s : ByteArray) (hp : p.size ≤ 1048576) (hs : s.size ≤ 1048576) : PFn Try.prog 12 [str p, str s] (bool (ppV p s).isSome) := by
  obtain ⟨o, ho⟩ := ppS_ext (ppV p s)
  have hc := f13_ok p s hp hs
  rw [ho] at hc
  refine fn_ok' (n := 14) Try.func12 rfl rfl rfl (Nat.le_of_ble_eq_true rfl) rfl fun w0 O => ?_
  refine ok_seq fun K1 h1 => ok_region rfl (q_as _ rfl (run_nil (h1 _ ?_))); clear h1 K1
  refine ok_seq fun K2 h2 => ok_region rfl (q_mv _ rfl (q_mv _ rfl (q_call hc cl13 rfl rfl (q_mv _ rfl (q_ext _ rfl rfl (q_ext _ rfl rfl (q_as _ rfl (q_as _ rfl (run_nil (h2 _ ?_)))))))))); clear h2 K2
  refine ok_seq fun K3 h3 => ok_region rfl (q_mv _ rfl (q_as _ rfl (run_nil (h3 _ ?_)))); clear h3 K3
  exact ok_ret ⟨_, rfl, rfl⟩
theorem f14_ok (p s : ByteArray) (hp : p.size ≤ 1048576) (hs : s.size ≤ 1048576) (hg : patOk p = true) (h100 : s.size ≤ 100) : PFn Try.prog 14 [str p, str s] (bool (patB p s)) := by
  refine fn_ok' (n := 17) Try.func14 rfl rfl rfl (Nat.le_of_ble_eq_true rfl) rfl fun w0 O => ?_
  refine ok_seq fun K1 h1 => ok_region rfl (q_as _ rfl (run_nil (h1 _ ?_))); clear h1 K1
  refine ok_seq fun K2 h2 => ?_
  refine ok_region rfl (q_mv _ rfl (q_call (f11_ok p hp) cl11 rfl rfl (q_mv _ rfl (q_and 3 3 rfl rfl rfl rfl rfl (fun hb11 =>
      q_mv (str s) rfl (q_lens st9 rfl (q_bin _ _ _ rfl rfl rfl (run_nil ⟨rfl, rfl, rfl, rfl⟩)))) (
    q_mv _ rfl (q_and 3 3 rfl rfl rfl rfl rfl (fun hb16 =>
      q_mv (str p) rfl (q_mv (str s) rfl (q_call (f71_ok p s hp hs hg) cl71 rfl rfl (run_nil ⟨rfl, rfl, rfl, rfl⟩)))) (
    q_as _ rfl (run_nil (h2 _ ?_)))))))))
  clear h2 K2
  refine ok_ret ⟨_, rfl, ?_⟩
  have : decide ((s.size : Int) ≤ 100) = true := decide_eq_true (by omega)
  rw [hg, this]; rfl
theorem le_nil {Γ : Ctx} {t : List (Nat × LV)} {h : List (Nat × Ent)} (n k : Nat) (hk : t.lookup k = some (.sv (.raw (.slice none 0 0)))) : Le Γ ⟨(k, .sv (.sl n [])) :: t, h⟩ ⟨t, h⟩ := by
  rintro a w ⟨ρ, I⟩
  refine ⟨ρ, I.dfr, I.size, I.frm, fun k' lv hk' => ?_, I.ent, I.new, I.sep, I.out, I.inn⟩
  rw [List.lookup_cons] at hk'
  cases hq : (k' == k) with
  | false => simp only [hq] at hk'; exact I.tmp k' lv hk'
  | true =>
    simp only [hq, Option.some.injEq] at hk'
    subst hk'
    obtain rfl : k' = k := by simpa using hq
    have h1 : Rep w (Own Γ h ρ) (.raw (.slice none 0 0)) (a.tmps.getD k' undef) := I.tmp k' _ hk
    show Rep w _ (.sl n []) _
    rw [rep_raw' h1]
    exact .nil n none 0
/-- How long texts are, all together. -/
def sumL (l : List (List UInt8)) : Nat := (l.map List.length).sum
theorem partsG_sum : ∀ (a : List Int) (s : List UInt8), sumL (partsG a s) ≤ s.length
  | [], s => by simp [partsG, sumL]
  | x :: a, s => by
    unfold partsG
    split
    · have h := partsG_sum a (s.drop (starN a s))
      rw [List.length_drop] at h
      unfold sumL at h ⊢
      rw [List.map_cons, List.sum_cons, List.length_take]
      omega
    · have h := partsG_sum a (s.drop 1)
      rw [List.length_drop] at h
      omega
theorem partsG_len : ∀ (a : List Int) (s : List UInt8), (partsG a s).length ≤ a.length
  | [], s => by simp [partsG]
  | x :: a, s => by
    unfold partsG
    split
    · have h := partsG_len a (s.drop (starN a s))
      simp only [List.length_cons]
      omega
    · have h := partsG_len a (s.drop 1)
      simp only [List.length_cons]
      omega
theorem sumL_take {l : List (List UInt8)} {k : Nat} {x : List UInt8} (h : l[k]? = some x) : sumL (l.take (k + 1)) = sumL (l.take k) + x.length := by
  unfold sumL
  rw [List.take_add_one, h, Option.toList_some, List.map_append, List.sum_append]
  simp
theorem sumL_le (l : List (List UInt8)) (k : Nat) : sumL (l.take k) ≤ sumL l := by
  unfold sumL
  conv => rhs; rw [← List.take_append_drop k l, List.map_append, List.sum_append]
  omega
theorem op_isoF {P : Program} {t : TypeId} {α β : Type} {E : α → SV} {F : α → Prop} {E' : β → SV} {F' : β → Prop} (f : α → β) (hE : ∀ x, F x → E x = E' (f x)) (hF : ∀ x, F x → F' (f x)) (h : Opens P t E F) : Opens P t E' F' := by
  intro H enc w base spare held fuel cs x hx
  obtain ⟨y, hk, hf⟩ := h H enc w base spare held fuel cs x hx
  exact ⟨f y, by rw [← hE y hf]; exact hk, hF y hf⟩
theorem op_Code : Opens Try.prog 22 eCode (fun y => LB y.length) :=
  op_isoF (fun y : List Int => y.map fun n => UInt8.ofNat n.toNat) (fun y h => by
    show SV.sl 1 _ = SV.sl 1 _
    rw [List.map_map]
    congr 1
    refine List.map_congr_left fun n hn => ?_
    have hw := h.2 n hn
    have hr : 0 ≤ n ∧ n ≤ 255 := by
      simp only [Lit.wf, Bool.and_eq_true, decide_eq_true_eq] at hw
      rw [show IntKind.u8.min = 0 from rfl, show IntKind.u8.max = 255 from rfl] at hw
      exact hw
    show SV.raw (.int .u8 n) = .raw (.int .u8 ((UInt8.ofNat n.toNat).toNat : Int))
    rw [UInt8.toNat_ofNat']
    congr 2
    omega) (fun y h => by show (y.map _).length ≤ _; rw [List.length_map]; exact h.1) (op_slice (n := 1) Try.underlying22 (by kernel_rfl) (by decide) (fun _ => ⟨.inr rfl, rfl⟩) (op_int Try.underlying5))
theorem f3_ok (a0 : List UInt8) (pa0 : LB a0.length) : PFn Try.prog 3 [eCode a0] (bool true) := by
  refine fn_ok' (n := 63) Try.func3 rfl rfl rfl (Nat.le_of_ble_eq_true rfl) rfl fun w0 O => ?_
  refine ok_seq fun K1 h1 => ok_region rfl (q_as _ rfl (run_nil (h1 _ ?_))); clear h1 K1
  refine ok_seq fun K2 h2 => ?_
  refine ok_seq fun K3 h3 => ok_region rfl (q_mv (eCode a0) rfl (q_len eS22 rfl (q_bin _ _ _ rfl rfl rfl (run_nil (h3 _ ?_))))); clear h3 K3
  rw [List.length_map]
  refine ok_cond rfl (fun c4 => ?_) (fun c4 => ?_)
  · refine ok_seq fun K5 h5 => ok_region rfl (q_as _ rfl (run_nil (h5 _ ?_)))
    exact ok_ret ⟨_, rfl, rfl⟩
  have hlen : a0.length ≤ 1048576 := by have : ¬ (1048576 : Int) < a0.length := by simpa using c4
                                        omega
  refine ok_skip (h2 _ ?_)
  refine ok_seq fun K6 h6 => ok_region rfl (q_mv (eCode a0) rfl (q_callr (f10_r a0 hlen) cl10 rfl (fun r hr hz ha => ?_)))
  obtain ⟨p, s, rfl, hp, hs⟩ := hr
  refine q_mv _ rfl (q_ext _ rfl rfl (q_ext _ rfl rfl (q_as _ rfl (q_as _ rfl (run_nil (h6 _ ?_)))))); clear h6 K6
  have hp' : p.size ≤ 1048576 := by omega
  have hs' : s.size ≤ 1048576 := by omega
  refine ok_seq fun K7 h7 => ?_
  refine ok_seq fun K8 h8 => ?_
  refine ok_region rfl (q_mv (str p) rfl (q_call (f11_ok p hp') cl11 rfl rfl (q_un _ _ rfl rfl (q_mv _ rfl (q_or 3 3 rfl rfl rfl rfl rfl (fun hb25 =>
      q_mv (str s) rfl (q_lens st9 rfl (q_bin _ _ _ rfl rfl rfl (run_nil ⟨rfl, rfl, rfl, rfl⟩)))) (
    run_nil (h8 _ ?_)))))))
  clear h8 K8
  refine ok_cond rfl (fun c9 => ?_) (fun c9 => ?_)
  · have hno : ppV p s = none := by
      unfold ppV
      rw [Bool.or_eq_true] at c9
      rcases c9 with c | c
      · have : patG p = none := by
          have h1 : patOk p = false := by simpa using c
          unfold patOk at h1
          cases hq : patG p with
          | none => rfl
          | some o => rw [hq] at h1; cases h1
        rw [this]
      · cases patG p with
        | none => rfl
        | some o =>
          have : (100 : Int) < s.size := by simpa using c
          simp only
          rw [if_pos (by omega)]
    refine ok_seq fun K10 h10 => ok_region rfl (q_mv (str p) rfl (q_mv (str s) rfl (q_call (f12_g p s hp' hs') cl12 rfl rfl (q_un _ _ rfl rfl (q_as _ rfl (run_nil (h10 _ ?_)))))))
    exact ok_ret ⟨_, rfl, by rw [hno]; rfl⟩
  · rw [Bool.or_eq_false_iff] at c9
    have hg : patOk p = true := by simpa using c9.1
    have h100 : s.size ≤ 100 := by have : ¬ (100 : Int) < s.size := by simpa using c9.2
                                   omega
    have hsome := ppV_some p s h100
    refine ok_skip (h7 _ ?_)
    obtain ⟨o, ho⟩ := ppS_ext (ppV p s)
    have hc13 := f13_ok p s hp' hs'
    rw [ho] at hc13
    refine ok_seq fun K11 h11 => ok_region rfl (q_mv (str p) rfl (q_mv (str s) rfl (q_call hc13 cl13 rfl rfl (q_mv _ rfl (q_ext _ rfl rfl (q_ext _ rfl rfl (q_as _ rfl (q_as _ rfl (run_nil (h11 _ ?_))))))))))
    clear h11 K11
    refine ok_seq fun K12 h12 => ?_
    refine ok_seq fun K13 h13 => ?_
    refine ok_region rfl (q_mv (bool (ppV p s).isSome) rfl (q_mv (str p) rfl (q_mv (str s) rfl (q_call (f14_ok p s hp' hs' hg h100) cl14 rfl rfl (q_neb Try.underlying4 rfl rfl (q_mv _ rfl (q_or 5 5 rfl rfl rfl rfl rfl (fun hb47 =>
        q_mv (str p) rfl (q_mv (str s) rfl (q_call (f12_g p s hp' hs') cl12 rfl rfl (q_mv (bool (ppV p s).isSome) rfl (q_neb Try.underlying4 rfl rfl (run_nil ⟨rfl, rfl, rfl, rfl⟩)))))) (
      run_nil (h13 _ ?_)))))))))
    clear h13 K13
    refine ok_cond rfl (fun c14 => ?_) (fun c14 => ?_)
    · exfalso
      rw [hsome] at c14
      simp at c14
    · refine ok_skip (h12 _ ?_)
      refine ok_seq fun K16 h16 => ok_region rfl (q_as _ rfl (run_nil (h16 _ ?_))); clear h16 K16
      have key : ∃ parts : List (List UInt8), (sumL parts ≤ s.size ∧ parts.length ≤ 100) ∧ (o = .sl 1 (parts.map strp) ∨ (o = .raw (.slice none 0 0) ∧ parts = [])) := by
        cases hq : ppV p s with
        | none => rw [hq] at ho; simp only [ppS, SV.tup.injEq, List.cons.injEq] at ho; exact ⟨[], ⟨by simp [sumL], by simp⟩, .inr ⟨ho.1.symm, rfl⟩⟩
        | some q =>
          rw [hq] at ho
          simp only [ppS, SV.tup.injEq, List.cons.injEq] at ho
          refine ⟨q, ?_, .inl ho.1.symm⟩
          unfold ppV at hq
          cases hpg : patG p with
          | none => rw [hpg] at hq; cases hq
          | some out =>
            rw [hpg] at hq
            simp only at hq
            rw [if_neg (by omega)] at hq
            cases hf : out.find? fun a => fit a s.data.toList with
            | none => rw [hf] at hq; cases hq
            | some al =>
              rw [hf] at hq
              simp only [Option.map_some, Option.some.injEq] at hq
              subst hq
              have h1 := partsG_sum al s.data.toList
              have h2 := partsG_len al s.data.toList
              have h3 := ((patG_ok hpg).1 al (List.mem_of_find?_eq_some hf)).1
              have hz : s.data.toList.length = s.size := by simp
              omega
      obtain ⟨parts, ⟨hsum, hpn⟩, hop⟩ := key
      have hpl : ∀ k x, parts[k]? = some x → sumL (parts.take (k + 1)) ≤ s.size := fun k x h => Nat.le_trans (sumL_le parts (k + 1)) hsum
      refine Ok.le (σ' := ⟨[(4, .sv (str s)), (5, .sv (.sl 1 (parts.map strp))), (7, .sv (int 0))], []⟩) ?_ ?_
      · rcases hop with rfl | ⟨rfl, rfl⟩
        · exact le_sub ⟨rfl, rfl, rfl, trivial⟩ trivial
        · exact Le.trans (le_sub ⟨rfl, rfl, rfl, trivial⟩ trivial) (le_nil 1 5 rfl)
      refine ok_seq fun K17 h17 => ?_
      refine ok_seq fun K18 h18 => ok_region rfl (q_mv (.sl 1 (parts.map strp)) rfl (q_len eS27 rfl (q_mv _ rfl (run_nil (h18 _ ?_))))); clear h18 K18
      rw [List.length_map]
      refine ok_block ?_
      refine ok_loop (fun (k : Nat) => ⟨[(4, .sv (str s)), (7, .sv (int (sumL (parts.take k)))), (48, .sv (.sl 1 (parts.map strp))), (49, .sv (int parts.length)), (50, .sv (int k))], []⟩) (fun k => k ≤ parts.length) (fun k => parts.length - k) 0 (Nat.zero_le _) (le_sub ⟨rfl, rfl, rfl, rfl, rfl, trivial⟩ trivial) (fun k J => ?_)
      refine ok_seq fun K19 h19 => ok_region rfl (q_bin _ _ _ rfl rfl rfl (run_nil (h19 _ ?_))); clear h19 K19
      refine ok_seq fun K20 h20 => ?_
      refine ok_cond rfl (fun c21 => ?_) (fun c21 => ?_)
      · refine ok_skip (h20 _ ?_)
        have hk : k < parts.length := by simpa using c21
        obtain ⟨u, hu⟩ := sget hk
        have hst := sumL_take hu
        have hub := hpl k u hu
        have hus : (⟨u.toArray⟩ : ByteArray).size = u.length := by show u.toArray.size = _; simp
        refine ok_seq fun K22 h22 => ?_
        refine ok_block ?_
        refine ok_seq fun K23 h23 => ok_region rfl (q_ia el27 rfl rfl (by omega) (mget (f := strp) hu) (q_ld _ ag9 rfl rfl (q_as _ rfl (run_nil (h23 _ ?_))))); clear h23 K23
        refine ok_last fun K24 h24 => ok_region rfl (q_mv (int (sumL (parts.take k))) rfl (q_mv (strp u) rfl (q_lens (s := ⟨u.toArray⟩) st9 rfl (q_add rfl rfl (by rw [hus]; omega) (q_as _ rfl (run_nil (h24 _ (h22 _ ?_))))))))
        refine ok_last fun K25 h25 => ok_region rfl (q_add rfl rfl (by omega) (q_mv _ rfl (run_nil (h25 _ ⟨k + 1, by omega, hk, ?_⟩))))
        have e : ((sumL (parts.take k) : Nat) : Int) + ((⟨u.toArray⟩ : ByteArray).size : Int) = ((sumL (parts.take (k + 1)) : Nat) : Int) := by rw [hus, hst]; omega
        rw [e]
        exact le_sub ⟨rfl, rfl, rfl, rfl, rfl, trivial⟩ trivial
      · have hk : parts.length ≤ k := by have : ¬ ((k : Int) < parts.length) := by simpa using c21
                                         omega
        rw [List.take_of_length_le hk]
        refine ok_exit (h17 _ ?_)
        refine ok_seq fun K26 h26 => ok_region rfl (q_mv (int (sumL parts)) rfl (q_mv (str s) rfl (q_lens st9 rfl (q_bin _ _ _ rfl rfl rfl (q_as _ rfl (run_nil (h26 _ ?_)))))))
        exact ok_ret ⟨_, rfl, by rw [decide_eq_true (by omega)]; rfl⟩
end Go.Ring
