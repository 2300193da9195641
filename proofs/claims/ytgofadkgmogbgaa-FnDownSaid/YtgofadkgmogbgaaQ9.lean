/- The law of labels: drawn good labels are read back from their text; they are compared as a total order; one of a name is found under it. No condition. -/
import Derived.Test.YtgofadkgmogbgaaQ8
import Derived.Test.YtgofadkgmogbgaaEg3
set_option maxRecDepth 100000
set_option linter.unusedVariables false
set_option linter.unusedSimpArgs false
namespace Go.Ring
open Go Go.RowKit Go.Eager Go.Abs Go.Proofs
theorem zn_sl {b : Nat} {n : Nat} {l : List SV} (h : Zn b (.sl n l)) : False := by cases h
theorem f29_r (code : List UInt8) (hc : code.length ≤ 1048576) : PFnR Try.prog 29 [eCode code] (fun r => ∃ a b : List Label, r = .tup [eLabelS a, eLabelS b] ∧ SmL a ∧ SmL b) := by
  refine fnp_ok (n := 26) Try.func29 rfl rfl rfl (Nat.le_of_ble_eq_true rfl) rfl fun w0 O => ?_
  refine ok_seq fun K1 h1 => ok_region rfl (q_as _ rfl (q_as _ rfl (run_nil (h1 _ ?_)))); clear h1 K1
  refine ok_seq fun K1 h1 => ok_region rfl (q_mv (eCode code) rfl (q_bldz [eCode code] [int 0, .raw (.int .u64 0)] (bz115 code) ⟨raw_z _ _, raw_z _ _, trivial⟩ rfl rfl rfl (q_boxo (cells := [.sv (eCode code), .sv (int 0), .sv (.raw (.int .u64 0))]) _ rfl (.inl ⟨_, rfl⟩) rfl rfl rfl (q_ap 9 0 rfl (run_nil (h1 _ ?_))))))
  clear h1 K1
  have hc0 : CurOk code 0 0 := ⟨hc, by omega, by omega, by omega⟩
  refine Ok.le (σ' := ⟨[(4, .ptr 9 0)], [(9, curB code 0 0)]⟩) (le_sub ⟨rfl, trivial⟩ ⟨rfl, trivial⟩) ?_
  refine ok_seq fun K1 h1 => ok_region rfl (q_mp 9 0 rfl (q_callb [(1000, 9), (3, 11)] (f107_ok code 0 0 hc0 (by omega)) cl107 rfl rfl ⟨⟨rfl, rfl⟩, trivial⟩ rfl ⟨.inl rfl, .inr rfl, trivial⟩ (fun r h' hR => ?_)))
  obtain ⟨la, a1, seed1, rfl, la0, la1, la2, ha1, ha2, hc1, rfl⟩ := hR
  refine ⟨rfl, rfl, ?_⟩
  refine q_ao 11 rfl (run_nil (h1 _ ?_)); clear h1 K1
  refine Ok.le (σ' := ⟨[(4, .ptr 9 0), (5, .own 11)], [(11, .row 2 71 (la.map eLabel)), (9, curB code a1 seed1)]⟩) (le_sub ⟨rfl, rfl, trivial⟩ ⟨rfl, rfl, trivial⟩) ?_
  refine ok_seq fun K1 h1 => ok_region rfl (q_mp 9 0 rfl (q_callb [(1000, 9), (3, 13)] (f107_ok code a1 seed1 hc1 (by omega)) cl107 rfl rfl ⟨⟨rfl, rfl⟩, trivial⟩ rfl ⟨.inl rfl, .inr rfl, trivial⟩ (fun r h' hR => ?_)))
  obtain ⟨lb, a2, seed2, rfl, lb0, lb1, lb2, hb1, hb2, hc2, rfl⟩ := hR
  refine ⟨rfl, rfl, ?_⟩
  refine q_ao 13 rfl (run_nil (h1 _ ?_)); clear h1 K1
  refine ok_seq_join (fun (s : List Label × Int × Int) => ⟨[(4, .ptr 9 0), (5, .own 11), (6, .own 13)], [(11, .row 2 71 (la.map eLabel)), (13, .row 2 71 (s.1.map eLabel)), (9, curB code s.2.1 s.2.2)]⟩) (fun s => s.1 ≠ [] ∧ s.1.length ≤ 6 ∧ SmL s.1 ∧ s.2.1 ≤ 1000 ∧ CurOk code s.2.1 s.2.2) ?_ (fun s J => ?_)
  · refine ok_seq fun K2 h2 => ok_region rfl (q_mp 9 0 rfl (q_dr (sa := [int 3]) 9 (f64_ok code a2 seed2 hc2 (by omega) 3 (by omega)) cl64 rfl rfl rfl rfl rfl (fun s a3 seed3 hs hd1 hd2 hc3 => ?_)))
    obtain ⟨b, rfl⟩ := hs
    refine run_nil (h2 _ ?_); clear h2 K2
    refine ok_cond rfl (fun c => ?_) (fun c => ?_)
    · have hpos : 0 < (lb.map eLabel).length := by rw [List.length_map]; exact List.length_pos_iff.2 lb0
      have hne : la.map eLabel ≠ [] := fun e => la0 (by simpa using e)
      refine ok_last fun K7 h7 => ok_region rfl (q_mo 13 rfl (q_slp el61 rfl rfl hpos rfl (by omega) (by omega) rfl rfl (q_mo 11 rfl (q_appo _ el61 ze71 rfl by71 rfl rfl rfl rfl rfl rfl hne (by intro s hs; obtain ⟨y, _, rfl⟩ := List.mem_map.1 hs; exact .inl ⟨_, rfl⟩) (by rw [List.length_map]; show 0 + la.length ≤ maxLen; unfold maxLen; omega) (by rw [List.length_map]; show (0 + la.length) * _ ≤ _; omega) (
        q_ao 19 rfl (run_nil (h7 _ ?_)))))))
      refine ⟨(la, a3, seed3), ⟨la0, la1, la2, by simp only; omega, hc3⟩, ?_⟩
      exact le_rek 13 19 ⟨rfl, rfl, rfl, trivial⟩ ⟨rfl, rfl, rfl, trivial⟩ rfl rfl rfl rfl ⟨rfl, rfl, rfl, trivial⟩
    · exact ok_skip ⟨(lb, a3, seed3), ⟨lb0, lb1, lb2, by simp only; omega, hc3⟩, le_sub ⟨rfl, rfl, rfl, trivial⟩ ⟨rfl, rfl, rfl, trivial⟩⟩
  · obtain ⟨lb, a3, seed3⟩ := s
    obtain ⟨j1, j2, j3, j4, j5⟩ := J
    simp only at j1 j2 j3 j4 j5
    have j6 := j5.2.1
    refine ok_seq fun K1 h1 => ok_region rfl (q_mp 9 0 rfl (q_mo 11 rfl (q_callb [(1000, 9), (1001, 11)] (f108_ok code a3 seed3 j5 (by omega) la la0 la2 (by omega)) cl108 rfl rfl ⟨⟨rfl, rfl⟩, ⟨rfl, rfl⟩, trivial⟩ rfl ⟨.inl rfl, .inr rfl, trivial⟩ (fun r h' hR => ?_))))
    obtain ⟨xa, a4, seed4, rfl, xa0, xa1, xa2, hd1, hd2, hc4, rfl⟩ := hR
    refine ⟨rfl, rfl, ?_⟩
    refine q_mp 9 0 rfl (q_mo 13 rfl (q_callb [(1000, 9), (1001, 13)] (f108_ok code a4 seed4 hc4 (by omega) lb j1 j3 (by omega)) cl108 rfl rfl ⟨⟨rfl, rfl⟩, ⟨rfl, rfl⟩, trivial⟩ rfl ⟨.inl rfl, .inr rfl, trivial⟩ (fun r h' hR => ?_)))
    obtain ⟨xb, a5, seed5, rfl, xb0, xb1, xb2, he1, he2, hc5, rfl⟩ := hR
    refine ⟨rfl, rfl, ?_⟩
    refine q_ao 11 rfl (q_ao 13 rfl (run_nil (h1 _ ?_))); clear h1 K1
    refine Ok.le (σ' := ⟨[(2, .own 11), (3, .own 13)], [(11, .row 2 71 (xa.map eLabel)), (13, .row 2 71 (xb.map eLabel))]⟩) (le_sub ⟨rfl, rfl, trivial⟩ ⟨rfl, rfl, trivial⟩) ?_
    refine Ok.le (le_fz (n := 2) (T := 71) (l := xa.map eLabel) 11 rfl) ?_
    refine Ok.le (le_fz (n := 2) (T := 71) (l := xb.map eLabel) 13 rfl) ?_
    refine ok_ret ⟨_, ⟨_, _, rfl, ⟨_, _, rfl, rfl, rfl⟩, rfl⟩, ⟨xa, xb, rfl, xa2, xb2⟩, fun b hb => ?_⟩
    have hb : Zn b (.tup [eLabelS xa, eLabelS xb]) := hb
    obtain ⟨s, hs, h⟩ := zn_tup hb
    simp only [List.mem_cons, List.not_mem_nil, or_false] at hs
    rcases hs with rfl | rfl
    · exact (zn_sl h).elim
    · exact (zn_sl h).elim
end Go.Ring
