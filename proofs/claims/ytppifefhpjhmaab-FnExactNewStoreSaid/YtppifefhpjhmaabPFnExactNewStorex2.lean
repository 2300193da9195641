/- The law FnExactNewStore's walk: the store that is made has no series, no log and no blocks, so there is nothing to mark. No condition of its own. -/
import Derived.Test.YtppifefhpjhmaabPFnExactNewStorex1
namespace Go.Proofs.Ytppifefhpjhmaab.PFnExactNewStore
open Go.RowKit Go.Proofs.YtppifefhpjhmaabW.PrintWords Go.Proofs.YtppifefhpjhmaabW.PrintLast Go.Proofs.YtppifefhpjhmaabW.PrintMore Go.Proofs.Ytppifefhpjhmaab.XWords
set_option linter.unusedSimpArgs false
set_option linter.unusedVariables false
set_option maxRecDepth 100000 in
theorem specStore_no (a b c d : Int) (h : spec_GoodConf.f a b c d = some false) (w : World) : Calls Try.prog 31 #[.agg #[.int .i64 a, .int .i64 b, .int .i64 c, .int .i64 d]] w fun e w' => e = .returned (.agg #[.int .i64 0, .int .i64 0, .int .i64 0, .slice none 0 0, .slice none 0 0, .slice none 0 0]) ∧ Below w.heap.size w w' := by
  have hu := Try.underlying67
  have hv := Try.underlying65
  have H := Aside0.mk h
  clear h
  go_enter Try.func31, Try.ntmps31
  go_wp2_with (go_at_call 80; refine (spec_GoodConf.calls _ _ _ _ _ _ H.out).mono ?_; rintro e w1 ⟨rfl, hb⟩; obtain ⟨hc, hf⟩ := bcell hb)
  have B1 : Below w.heap.size w w1 := (((Below.refl _ _).alloc (Nat.le_refl _) _).alloc (by simp) _).trans (hb.mono (by simp; omega))
  refine bodyPost_ret (v := .agg #[.int .i64 0, .int .i64 0, .int .i64 0, .slice none 0 0, .slice none 0 0, .slice none 0 0]) (by simp [results, Try.results31, go_sem, hc]) rfl ⟨rfl, ?_⟩
  refine below_set (below_set (below_set (below_set (below_set (below_set B1 ?_) ?_) ?_) ?_) ?_) ?_ <;> simp
set_option maxRecDepth 100000 in
theorem specStore_yes (a b c d : Int) (h : spec_GoodConf.f a b c d = some true) (h0 : 0 ≤ a) (h1 : a ≤ 1000000000000) (h2 : 0 ≤ b) (h3 : b ≤ 200) (w : World) : Calls Try.prog 31 #[.agg #[.int .i64 a, .int .i64 b, .int .i64 c, .int .i64 d]] w fun e w' => e = .returned (.agg #[.int .i64 a, .int .i64 b, .int .i64 (-1), .slice none 0 0, .slice none 0 0, .slice none 0 0]) ∧ Below w.heap.size w w' := by
  have hu := Try.underlying67
  have hv := Try.underlying65
  have hx := Try.underlying62
  have H := Aside0.mk h
  clear h
  go_enter Try.func31, Try.ntmps31
  go_wp2_with (first | (go_at_call 80; refine (spec_GoodConf.calls _ _ _ _ _ _ H.out).mono ?_; rintro e w1 ⟨rfl, hb⟩; obtain ⟨hc, hf⟩ := bcell hb; have hz : w.heap.size + 1 < w1.heap.size := (by have := hb.size; simp at this; omega)) | (go_at_call 81; refine (specHead _ _ h0 h1 h2 h3 _).mono ?_; rintro e w2 ⟨rfl, hb2⟩; obtain ⟨hc2, hf2⟩ := bcell hb2))
  have B1 : Below w.heap.size w w1 := (((Below.refl _ _).alloc (Nat.le_refl _) _).alloc (by simp) _).trans (hb.mono (by simp; omega))
  have B2 : Below w.heap.size w w2 := B1.trans (hb2.mono (by omega))
  refine bodyPost_ret (v := .agg #[.int .i64 a, .int .i64 b, .int .i64 (-1), .slice none 0 0, .slice none 0 0, .slice none 0 0]) (by simp [results, Try.results31, go_sem, hc, hc2, hz]) rfl ⟨rfl, ?_⟩
  refine below_set (below_set (below_set (below_set (below_set (below_set B2 ?_) ?_) ?_) ?_) ?_) ?_ <;> simp
set_option maxRecDepth 100000 in
theorem implStore_no (a b c d : Int) (h : impl_GoodConf.f a b c d = some false) (w : World) : Calls Try.prog 33 #[.agg #[.int .i64 a, .int .i64 b, .int .i64 c, .int .i64 d]] w fun e w' => e = .returned (.agg #[.int .i64 0, .int .i64 0, .int .i64 0, .slice none 0 0, .slice none 0 0, .slice none 0 0]) ∧ Below w.heap.size w w' := by
  have hu := Try.underlying67
  have hv := Try.underlying65
  have H := Aside0.mk h
  clear h
  go_enter Try.func33, Try.ntmps33
  go_wp2_with (go_at_call 82; refine (impl_GoodConf.calls _ _ _ _ _ _ H.out).mono ?_; rintro e w1 ⟨rfl, hb⟩; obtain ⟨hc, hf⟩ := bcell hb)
  have B1 : Below w.heap.size w w1 := (((Below.refl _ _).alloc (Nat.le_refl _) _).alloc (by simp) _).trans (hb.mono (by simp; omega))
  refine bodyPost_ret (v := .agg #[.int .i64 0, .int .i64 0, .int .i64 0, .slice none 0 0, .slice none 0 0, .slice none 0 0]) (by simp [results, Try.results33, go_sem, hc]) rfl ⟨rfl, ?_⟩
  refine below_set (below_set (below_set (below_set (below_set (below_set B1 ?_) ?_) ?_) ?_) ?_) ?_ <;> simp
set_option maxRecDepth 100000 in
theorem implStore_yes (a b c d : Int) (h : impl_GoodConf.f a b c d = some true) (h0 : 0 ≤ a) (h1 : a ≤ 1000000000000) (h2 : 0 ≤ b) (h3 : b ≤ 200) (w : World) : Calls Try.prog 33 #[.agg #[.int .i64 a, .int .i64 b, .int .i64 c, .int .i64 d]] w fun e w' => e = .returned (.agg #[.int .i64 a, .int .i64 b, .int .i64 (-1), .slice none 0 0, .slice none 0 0, .slice none 0 0]) ∧ Below w.heap.size w w' := by
  have hu := Try.underlying67
  have hv := Try.underlying65
  have hx := Try.underlying62
  have H := Aside0.mk h
  clear h
  go_enter Try.func33, Try.ntmps33
  go_wp2_with (first | (go_at_call 82; refine (impl_GoodConf.calls _ _ _ _ _ _ H.out).mono ?_; rintro e w1 ⟨rfl, hb⟩; obtain ⟨hc, hf⟩ := bcell hb; have hz : w.heap.size + 1 < w1.heap.size := (by have := hb.size; simp at this; omega)) | (go_at_call 83; refine (implHead _ _ h0 h1 h2 h3 _).mono ?_; rintro e w2 ⟨rfl, hb2⟩; obtain ⟨hc2, hf2⟩ := bcell hb2))
  have B1 : Below w.heap.size w w1 := (((Below.refl _ _).alloc (Nat.le_refl _) _).alloc (by simp) _).trans (hb.mono (by simp; omega))
  have B2 : Below w.heap.size w w2 := B1.trans (hb2.mono (by omega))
  refine bodyPost_ret (v := .agg #[.int .i64 a, .int .i64 b, .int .i64 (-1), .slice none 0 0, .slice none 0 0, .slice none 0 0]) (by simp [results, Try.results33, go_sem, hc, hc2, hz]) rfl ⟨rfl, ?_⟩
  refine below_set (below_set (below_set (below_set (below_set (below_set B2 ?_) ?_) ?_) ?_) ?_) ?_ <;> simp
set_option maxHeartbeats 4000000 in
set_option maxRecDepth 100000 in
theorem law_walk (a b c d x y z : Int) (hs : ∀ w, Calls Try.prog 31 #[.agg #[.int .i64 a, .int .i64 b, .int .i64 c, .int .i64 d]] w fun e w' => e = .returned (.agg #[.int .i64 x, .int .i64 y, .int .i64 z, .slice none 0 0, .slice none 0 0, .slice none 0 0]) ∧ Below w.heap.size w w') (hi : ∀ w, Calls Try.prog 33 #[.agg #[.int .i64 a, .int .i64 b, .int .i64 c, .int .i64 d]] w fun e w' => e = .returned (.agg #[.int .i64 x, .int .i64 y, .int .i64 z, .slice none 0 0, .slice none 0 0, .slice none 0 0]) ∧ Below w.heap.size w w') (w : World) :
    Calls Try.prog 7 #[.agg #[.int .i64 a, .int .i64 b, .int .i64 c, .int .i64 d]] w fun e w' => e = .returned (.bool true) ∧ Below w.heap.size w w' := by
  have HS := Aside0.mk hs
  have HI := Aside0.mk hi
  clear hs hi
  have hu := Try.underlying59
  have hv := Try.underlying65
  go_enter Try.func7, Try.ntmps7
  go_wp2_with fail
  refine (toConf _ _ _ _ _).mono ?_
  rintro e w1 ⟨rfl, hb1⟩
  have z1_0 : w.heap.size < w1.heap.size := by have := hb1.size; (try simp at this); omega
  have c1_0_0 : w1.cell? ⟨w.heap.size, 0, none⟩ = some (.int .i64 a) := (hb1.cell (p := ⟨w.heap.size, 0, none⟩) (by simp; try omega)).trans (by go_simp)
  have c1_0_1 : w1.cell? ⟨w.heap.size, 1, none⟩ = some (.int .i64 b) := (hb1.cell (p := ⟨w.heap.size, 1, none⟩) (by simp; try omega)).trans (by go_simp)
  have c1_0_2 : w1.cell? ⟨w.heap.size, 2, none⟩ = some (.int .i64 c) := (hb1.cell (p := ⟨w.heap.size, 2, none⟩) (by simp; try omega)).trans (by go_simp)
  have c1_0_3 : w1.cell? ⟨w.heap.size, 3, none⟩ = some (.int .i64 d) := (hb1.cell (p := ⟨w.heap.size, 3, none⟩) (by simp; try omega)).trans (by go_simp)
  have B1 : Below w.heap.size w w1 := ((Below.refl _ _).alloc (Nat.le_refl _) _).trans (hb1.mono (by simp))
  clear hb1
  go_wp2_with fail
  refine (HS.out _).mono ?_
  rintro e w2 ⟨rfl, hb2⟩
  have z2_0 : w.heap.size < w2.heap.size := by have := hb2.size; (try simp at this); omega
  have c2_0_0 : w2.cell? ⟨w.heap.size, 0, none⟩ = some (.int .i64 a) := (hb2.cell (p := ⟨w.heap.size, 0, none⟩) (by simp; try omega)).trans (by go_simp)
  have c2_0_1 : w2.cell? ⟨w.heap.size, 1, none⟩ = some (.int .i64 b) := (hb2.cell (p := ⟨w.heap.size, 1, none⟩) (by simp; try omega)).trans (by go_simp)
  have c2_0_2 : w2.cell? ⟨w.heap.size, 2, none⟩ = some (.int .i64 c) := (hb2.cell (p := ⟨w.heap.size, 2, none⟩) (by simp; try omega)).trans (by go_simp)
  have c2_0_3 : w2.cell? ⟨w.heap.size, 3, none⟩ = some (.int .i64 d) := (hb2.cell (p := ⟨w.heap.size, 3, none⟩) (by simp; try omega)).trans (by go_simp)
  have B2 : Below w.heap.size w w2 := B1.trans (hb2.mono (by omega))
  clear hb2
  clear c1_0_0 c1_0_1 c1_0_2 c1_0_3
  clear B1
  go_wp2_with fail
  refine (toConf _ _ _ _ _).mono ?_
  rintro e w3 ⟨rfl, hb3⟩
  have z3_0 : w.heap.size < w3.heap.size := by have := hb3.size; (try simp at this); omega
  have z3_1 : w2.heap.size < w3.heap.size := by have := hb3.size; (try simp at this); omega
  have c3_0_0 : w3.cell? ⟨w.heap.size, 0, none⟩ = some (.int .i64 a) := (hb3.cell (p := ⟨w.heap.size, 0, none⟩) (by simp; try omega)).trans (by go_simp)
  have c3_0_1 : w3.cell? ⟨w.heap.size, 1, none⟩ = some (.int .i64 b) := (hb3.cell (p := ⟨w.heap.size, 1, none⟩) (by simp; try omega)).trans (by go_simp)
  have c3_0_2 : w3.cell? ⟨w.heap.size, 2, none⟩ = some (.int .i64 c) := (hb3.cell (p := ⟨w.heap.size, 2, none⟩) (by simp; try omega)).trans (by go_simp)
  have c3_0_3 : w3.cell? ⟨w.heap.size, 3, none⟩ = some (.int .i64 d) := (hb3.cell (p := ⟨w.heap.size, 3, none⟩) (by simp; try omega)).trans (by go_simp)
  have c3_1_0 : w3.cell? ⟨w2.heap.size, 0, none⟩ = some (.int .i64 x) := (hb3.cell (p := ⟨w2.heap.size, 0, none⟩) (by simp; try omega)).trans (by go_simp)
  have c3_1_1 : w3.cell? ⟨w2.heap.size, 1, none⟩ = some (.int .i64 y) := (hb3.cell (p := ⟨w2.heap.size, 1, none⟩) (by simp; try omega)).trans (by go_simp)
  have c3_1_2 : w3.cell? ⟨w2.heap.size, 2, none⟩ = some (.int .i64 z) := (hb3.cell (p := ⟨w2.heap.size, 2, none⟩) (by simp; try omega)).trans (by go_simp)
  have c3_1_3 : w3.cell? ⟨w2.heap.size, 3, none⟩ = some (.slice none 0 0) := (hb3.cell (p := ⟨w2.heap.size, 3, none⟩) (by simp; try omega)).trans (by go_simp)
  have c3_1_4 : w3.cell? ⟨w2.heap.size, 4, none⟩ = some (.slice none 0 0) := (hb3.cell (p := ⟨w2.heap.size, 4, none⟩) (by simp; try omega)).trans (by go_simp)
  have c3_1_5 : w3.cell? ⟨w2.heap.size, 5, none⟩ = some (.slice none 0 0) := (hb3.cell (p := ⟨w2.heap.size, 5, none⟩) (by simp; try omega)).trans (by go_simp)
  have B3 : Below w.heap.size w w3 := (B2.alloc (by omega) _).trans (hb3.mono (by simp; omega))
  clear hb3
  clear c2_0_0 c2_0_1 c2_0_2 c2_0_3
  clear B2
  go_wp2_with fail
  refine (HI.out _).mono ?_
  rintro e w4 ⟨rfl, hb4⟩
  have z4_0 : w.heap.size < w4.heap.size := by have := hb4.size; (try simp at this); omega
  have z4_1 : w2.heap.size < w4.heap.size := by have := hb4.size; (try simp at this); omega
  have c4_0_0 : w4.cell? ⟨w.heap.size, 0, none⟩ = some (.int .i64 a) := (hb4.cell (p := ⟨w.heap.size, 0, none⟩) (by simp; try omega)).trans (by go_simp)
  have c4_0_1 : w4.cell? ⟨w.heap.size, 1, none⟩ = some (.int .i64 b) := (hb4.cell (p := ⟨w.heap.size, 1, none⟩) (by simp; try omega)).trans (by go_simp)
  have c4_0_2 : w4.cell? ⟨w.heap.size, 2, none⟩ = some (.int .i64 c) := (hb4.cell (p := ⟨w.heap.size, 2, none⟩) (by simp; try omega)).trans (by go_simp)
  have c4_0_3 : w4.cell? ⟨w.heap.size, 3, none⟩ = some (.int .i64 d) := (hb4.cell (p := ⟨w.heap.size, 3, none⟩) (by simp; try omega)).trans (by go_simp)
  have c4_1_0 : w4.cell? ⟨w2.heap.size, 0, none⟩ = some (.int .i64 x) := (hb4.cell (p := ⟨w2.heap.size, 0, none⟩) (by simp; try omega)).trans (by go_simp)
  have c4_1_1 : w4.cell? ⟨w2.heap.size, 1, none⟩ = some (.int .i64 y) := (hb4.cell (p := ⟨w2.heap.size, 1, none⟩) (by simp; try omega)).trans (by go_simp)
  have c4_1_2 : w4.cell? ⟨w2.heap.size, 2, none⟩ = some (.int .i64 z) := (hb4.cell (p := ⟨w2.heap.size, 2, none⟩) (by simp; try omega)).trans (by go_simp)
  have c4_1_3 : w4.cell? ⟨w2.heap.size, 3, none⟩ = some (.slice none 0 0) := (hb4.cell (p := ⟨w2.heap.size, 3, none⟩) (by simp; try omega)).trans (by go_simp)
  have c4_1_4 : w4.cell? ⟨w2.heap.size, 4, none⟩ = some (.slice none 0 0) := (hb4.cell (p := ⟨w2.heap.size, 4, none⟩) (by simp; try omega)).trans (by go_simp)
  have c4_1_5 : w4.cell? ⟨w2.heap.size, 5, none⟩ = some (.slice none 0 0) := (hb4.cell (p := ⟨w2.heap.size, 5, none⟩) (by simp; try omega)).trans (by go_simp)
  have B4 : Below w.heap.size w w4 := B3.trans (hb4.mono (by omega))
  clear hb4
  clear c3_0_0 c3_0_1 c3_0_2 c3_0_3
  clear c3_1_0 c3_1_1 c3_1_2 c3_1_3 c3_1_4 c3_1_5
  clear B3
  go_wp2_with fail
  refine (eqStore_nil _ _ _ _ _ _ _ _ _ _ _ _ _ _ _ _).mono ?_
  rintro e w5 ⟨rfl, hb5⟩
  have z5_0 : w.heap.size < w5.heap.size := by have := hb5.size; (try simp at this); omega
  have z5_1 : w2.heap.size < w5.heap.size := by have := hb5.size; (try simp at this); omega
  have z5_2 : w4.heap.size < w5.heap.size := by have := hb5.size; (try simp at this); omega
  have c5_0_0 : w5.cell? ⟨w.heap.size, 0, none⟩ = some (.int .i64 a) := (hb5.cell (p := ⟨w.heap.size, 0, none⟩) (by simp; try omega)).trans (by go_simp)
  have c5_0_1 : w5.cell? ⟨w.heap.size, 1, none⟩ = some (.int .i64 b) := (hb5.cell (p := ⟨w.heap.size, 1, none⟩) (by simp; try omega)).trans (by go_simp)
  have c5_0_2 : w5.cell? ⟨w.heap.size, 2, none⟩ = some (.int .i64 c) := (hb5.cell (p := ⟨w.heap.size, 2, none⟩) (by simp; try omega)).trans (by go_simp)
  have c5_0_3 : w5.cell? ⟨w.heap.size, 3, none⟩ = some (.int .i64 d) := (hb5.cell (p := ⟨w.heap.size, 3, none⟩) (by simp; try omega)).trans (by go_simp)
  have c5_1_0 : w5.cell? ⟨w2.heap.size, 0, none⟩ = some (.int .i64 x) := (hb5.cell (p := ⟨w2.heap.size, 0, none⟩) (by simp; try omega)).trans (by go_simp)
  have c5_1_1 : w5.cell? ⟨w2.heap.size, 1, none⟩ = some (.int .i64 y) := (hb5.cell (p := ⟨w2.heap.size, 1, none⟩) (by simp; try omega)).trans (by go_simp)
  have c5_1_2 : w5.cell? ⟨w2.heap.size, 2, none⟩ = some (.int .i64 z) := (hb5.cell (p := ⟨w2.heap.size, 2, none⟩) (by simp; try omega)).trans (by go_simp)
  have c5_1_3 : w5.cell? ⟨w2.heap.size, 3, none⟩ = some (.slice none 0 0) := (hb5.cell (p := ⟨w2.heap.size, 3, none⟩) (by simp; try omega)).trans (by go_simp)
  have c5_1_4 : w5.cell? ⟨w2.heap.size, 4, none⟩ = some (.slice none 0 0) := (hb5.cell (p := ⟨w2.heap.size, 4, none⟩) (by simp; try omega)).trans (by go_simp)
  have c5_1_5 : w5.cell? ⟨w2.heap.size, 5, none⟩ = some (.slice none 0 0) := (hb5.cell (p := ⟨w2.heap.size, 5, none⟩) (by simp; try omega)).trans (by go_simp)
  have c5_2_0 : w5.cell? ⟨w4.heap.size, 0, none⟩ = some (.int .i64 x) := (hb5.cell (p := ⟨w4.heap.size, 0, none⟩) (by simp; try omega)).trans (by go_simp)
  have c5_2_1 : w5.cell? ⟨w4.heap.size, 1, none⟩ = some (.int .i64 y) := (hb5.cell (p := ⟨w4.heap.size, 1, none⟩) (by simp; try omega)).trans (by go_simp)
  have c5_2_2 : w5.cell? ⟨w4.heap.size, 2, none⟩ = some (.int .i64 z) := (hb5.cell (p := ⟨w4.heap.size, 2, none⟩) (by simp; try omega)).trans (by go_simp)
  have c5_2_3 : w5.cell? ⟨w4.heap.size, 3, none⟩ = some (.slice none 0 0) := (hb5.cell (p := ⟨w4.heap.size, 3, none⟩) (by simp; try omega)).trans (by go_simp)
  have c5_2_4 : w5.cell? ⟨w4.heap.size, 4, none⟩ = some (.slice none 0 0) := (hb5.cell (p := ⟨w4.heap.size, 4, none⟩) (by simp; try omega)).trans (by go_simp)
  have c5_2_5 : w5.cell? ⟨w4.heap.size, 5, none⟩ = some (.slice none 0 0) := (hb5.cell (p := ⟨w4.heap.size, 5, none⟩) (by simp; try omega)).trans (by go_simp)
  have B5 : Below w.heap.size w w5 := (B4.alloc (by omega) _).trans (hb5.mono (by simp; omega))
  clear hb5
  clear c4_0_0 c4_0_1 c4_0_2 c4_0_3
  clear c4_1_0 c4_1_1 c4_1_2 c4_1_3 c4_1_4 c4_1_5
  clear B4
  go_wp2_with fail
  refine (markStore_nil _ _ _ _ _ _ _ _ _ _ _).mono ?_
  rintro e w6 ⟨rfl, hb6⟩
  have z6_0 : w.heap.size < w6.heap.size := by have := hb6.size; (try simp at this); omega
  have z6_1 : w2.heap.size < w6.heap.size := by have := hb6.size; (try simp at this); omega
  have z6_2 : w4.heap.size < w6.heap.size := by have := hb6.size; (try simp at this); omega
  have c6_0_0 : w6.cell? ⟨w.heap.size, 0, none⟩ = some (.int .i64 a) := (hb6.cell (p := ⟨w.heap.size, 0, none⟩) (by simp; try omega)).trans (by go_simp)
  have c6_0_1 : w6.cell? ⟨w.heap.size, 1, none⟩ = some (.int .i64 b) := (hb6.cell (p := ⟨w.heap.size, 1, none⟩) (by simp; try omega)).trans (by go_simp)
  have c6_0_2 : w6.cell? ⟨w.heap.size, 2, none⟩ = some (.int .i64 c) := (hb6.cell (p := ⟨w.heap.size, 2, none⟩) (by simp; try omega)).trans (by go_simp)
  have c6_0_3 : w6.cell? ⟨w.heap.size, 3, none⟩ = some (.int .i64 d) := (hb6.cell (p := ⟨w.heap.size, 3, none⟩) (by simp; try omega)).trans (by go_simp)
  have c6_1_0 : w6.cell? ⟨w2.heap.size, 0, none⟩ = some (.int .i64 x) := (hb6.cell (p := ⟨w2.heap.size, 0, none⟩) (by simp; try omega)).trans (by go_simp)
  have c6_1_1 : w6.cell? ⟨w2.heap.size, 1, none⟩ = some (.int .i64 y) := (hb6.cell (p := ⟨w2.heap.size, 1, none⟩) (by simp; try omega)).trans (by go_simp)
  have c6_1_2 : w6.cell? ⟨w2.heap.size, 2, none⟩ = some (.int .i64 z) := (hb6.cell (p := ⟨w2.heap.size, 2, none⟩) (by simp; try omega)).trans (by go_simp)
  have c6_1_3 : w6.cell? ⟨w2.heap.size, 3, none⟩ = some (.slice none 0 0) := (hb6.cell (p := ⟨w2.heap.size, 3, none⟩) (by simp; try omega)).trans (by go_simp)
  have c6_1_4 : w6.cell? ⟨w2.heap.size, 4, none⟩ = some (.slice none 0 0) := (hb6.cell (p := ⟨w2.heap.size, 4, none⟩) (by simp; try omega)).trans (by go_simp)
  have c6_1_5 : w6.cell? ⟨w2.heap.size, 5, none⟩ = some (.slice none 0 0) := (hb6.cell (p := ⟨w2.heap.size, 5, none⟩) (by simp; try omega)).trans (by go_simp)
  have c6_2_0 : w6.cell? ⟨w4.heap.size, 0, none⟩ = some (.int .i64 x) := (hb6.cell (p := ⟨w4.heap.size, 0, none⟩) (by simp; try omega)).trans (by go_simp)
  have c6_2_1 : w6.cell? ⟨w4.heap.size, 1, none⟩ = some (.int .i64 y) := (hb6.cell (p := ⟨w4.heap.size, 1, none⟩) (by simp; try omega)).trans (by go_simp)
  have c6_2_2 : w6.cell? ⟨w4.heap.size, 2, none⟩ = some (.int .i64 z) := (hb6.cell (p := ⟨w4.heap.size, 2, none⟩) (by simp; try omega)).trans (by go_simp)
  have c6_2_3 : w6.cell? ⟨w4.heap.size, 3, none⟩ = some (.slice none 0 0) := (hb6.cell (p := ⟨w4.heap.size, 3, none⟩) (by simp; try omega)).trans (by go_simp)
  have c6_2_4 : w6.cell? ⟨w4.heap.size, 4, none⟩ = some (.slice none 0 0) := (hb6.cell (p := ⟨w4.heap.size, 4, none⟩) (by simp; try omega)).trans (by go_simp)
  have c6_2_5 : w6.cell? ⟨w4.heap.size, 5, none⟩ = some (.slice none 0 0) := (hb6.cell (p := ⟨w4.heap.size, 5, none⟩) (by simp; try omega)).trans (by go_simp)
  have B6 : Below w.heap.size w w6 := B5.trans (hb6.mono (by omega))
  clear hb6
  clear c5_0_0 c5_0_1 c5_0_2 c5_0_3
  clear c5_1_0 c5_1_1 c5_1_2 c5_1_3 c5_1_4 c5_1_5
  clear c5_2_0 c5_2_1 c5_2_2 c5_2_3 c5_2_4 c5_2_5
  clear B5
  go_wp2_with fail
  refine (heldStore_nil _ _ _ _ _ _ _ _ _ _ (by decide) _).mono ?_
  rintro e w7 ⟨rfl, hb7⟩
  have z7_0 : w.heap.size < w7.heap.size := by have := hb7.size; (try simp at this); omega
  have z7_1 : w2.heap.size < w7.heap.size := by have := hb7.size; (try simp at this); omega
  have z7_2 : w4.heap.size < w7.heap.size := by have := hb7.size; (try simp at this); omega
  have c7_0_0 : w7.cell? ⟨w.heap.size, 0, none⟩ = some (.int .i64 a) := (hb7.cell (p := ⟨w.heap.size, 0, none⟩) (by simp; try omega)).trans (by go_simp)
  have c7_0_1 : w7.cell? ⟨w.heap.size, 1, none⟩ = some (.int .i64 b) := (hb7.cell (p := ⟨w.heap.size, 1, none⟩) (by simp; try omega)).trans (by go_simp)
  have c7_0_2 : w7.cell? ⟨w.heap.size, 2, none⟩ = some (.int .i64 c) := (hb7.cell (p := ⟨w.heap.size, 2, none⟩) (by simp; try omega)).trans (by go_simp)
  have c7_0_3 : w7.cell? ⟨w.heap.size, 3, none⟩ = some (.int .i64 d) := (hb7.cell (p := ⟨w.heap.size, 3, none⟩) (by simp; try omega)).trans (by go_simp)
  have c7_1_0 : w7.cell? ⟨w2.heap.size, 0, none⟩ = some (.int .i64 x) := (hb7.cell (p := ⟨w2.heap.size, 0, none⟩) (by simp; try omega)).trans (by go_simp)
  have c7_1_1 : w7.cell? ⟨w2.heap.size, 1, none⟩ = some (.int .i64 y) := (hb7.cell (p := ⟨w2.heap.size, 1, none⟩) (by simp; try omega)).trans (by go_simp)
  have c7_1_2 : w7.cell? ⟨w2.heap.size, 2, none⟩ = some (.int .i64 z) := (hb7.cell (p := ⟨w2.heap.size, 2, none⟩) (by simp; try omega)).trans (by go_simp)
  have c7_1_3 : w7.cell? ⟨w2.heap.size, 3, none⟩ = some (.slice none 0 0) := (hb7.cell (p := ⟨w2.heap.size, 3, none⟩) (by simp; try omega)).trans (by go_simp)
  have c7_1_4 : w7.cell? ⟨w2.heap.size, 4, none⟩ = some (.slice none 0 0) := (hb7.cell (p := ⟨w2.heap.size, 4, none⟩) (by simp; try omega)).trans (by go_simp)
  have c7_1_5 : w7.cell? ⟨w2.heap.size, 5, none⟩ = some (.slice none 0 0) := (hb7.cell (p := ⟨w2.heap.size, 5, none⟩) (by simp; try omega)).trans (by go_simp)
  have c7_2_0 : w7.cell? ⟨w4.heap.size, 0, none⟩ = some (.int .i64 x) := (hb7.cell (p := ⟨w4.heap.size, 0, none⟩) (by simp; try omega)).trans (by go_simp)
  have c7_2_1 : w7.cell? ⟨w4.heap.size, 1, none⟩ = some (.int .i64 y) := (hb7.cell (p := ⟨w4.heap.size, 1, none⟩) (by simp; try omega)).trans (by go_simp)
  have c7_2_2 : w7.cell? ⟨w4.heap.size, 2, none⟩ = some (.int .i64 z) := (hb7.cell (p := ⟨w4.heap.size, 2, none⟩) (by simp; try omega)).trans (by go_simp)
  have c7_2_3 : w7.cell? ⟨w4.heap.size, 3, none⟩ = some (.slice none 0 0) := (hb7.cell (p := ⟨w4.heap.size, 3, none⟩) (by simp; try omega)).trans (by go_simp)
  have c7_2_4 : w7.cell? ⟨w4.heap.size, 4, none⟩ = some (.slice none 0 0) := (hb7.cell (p := ⟨w4.heap.size, 4, none⟩) (by simp; try omega)).trans (by go_simp)
  have c7_2_5 : w7.cell? ⟨w4.heap.size, 5, none⟩ = some (.slice none 0 0) := (hb7.cell (p := ⟨w4.heap.size, 5, none⟩) (by simp; try omega)).trans (by go_simp)
  have B7 : Below w.heap.size w w7 := B6.trans (hb7.mono (by omega))
  clear hb7
  clear c6_0_0 c6_0_1 c6_0_2 c6_0_3
  clear c6_1_0 c6_1_1 c6_1_2 c6_1_3 c6_1_4 c6_1_5
  clear c6_2_0 c6_2_1 c6_2_2 c6_2_3 c6_2_4 c6_2_5
  clear B6
  go_wp2_with fail
  refine (toConf _ _ _ _ _).mono ?_
  rintro e w8 ⟨rfl, hb8⟩
  have z8_0 : w.heap.size < w8.heap.size := by have := hb8.size; (try simp at this); omega
  have z8_1 : w2.heap.size < w8.heap.size := by have := hb8.size; (try simp at this); omega
  have z8_2 : w4.heap.size < w8.heap.size := by have := hb8.size; (try simp at this); omega
  have c8_0_0 : w8.cell? ⟨w.heap.size, 0, none⟩ = some (.int .i64 a) := (hb8.cell (p := ⟨w.heap.size, 0, none⟩) (by simp; try omega)).trans (by go_simp)
  have c8_0_1 : w8.cell? ⟨w.heap.size, 1, none⟩ = some (.int .i64 b) := (hb8.cell (p := ⟨w.heap.size, 1, none⟩) (by simp; try omega)).trans (by go_simp)
  have c8_0_2 : w8.cell? ⟨w.heap.size, 2, none⟩ = some (.int .i64 c) := (hb8.cell (p := ⟨w.heap.size, 2, none⟩) (by simp; try omega)).trans (by go_simp)
  have c8_0_3 : w8.cell? ⟨w.heap.size, 3, none⟩ = some (.int .i64 d) := (hb8.cell (p := ⟨w.heap.size, 3, none⟩) (by simp; try omega)).trans (by go_simp)
  have c8_1_0 : w8.cell? ⟨w2.heap.size, 0, none⟩ = some (.int .i64 x) := (hb8.cell (p := ⟨w2.heap.size, 0, none⟩) (by simp; try omega)).trans (by go_simp)
  have c8_1_1 : w8.cell? ⟨w2.heap.size, 1, none⟩ = some (.int .i64 y) := (hb8.cell (p := ⟨w2.heap.size, 1, none⟩) (by simp; try omega)).trans (by go_simp)
  have c8_1_2 : w8.cell? ⟨w2.heap.size, 2, none⟩ = some (.int .i64 z) := (hb8.cell (p := ⟨w2.heap.size, 2, none⟩) (by simp; try omega)).trans (by go_simp)
  have c8_1_3 : w8.cell? ⟨w2.heap.size, 3, none⟩ = some (.slice none 0 0) := (hb8.cell (p := ⟨w2.heap.size, 3, none⟩) (by simp; try omega)).trans (by go_simp)
  have c8_1_4 : w8.cell? ⟨w2.heap.size, 4, none⟩ = some (.slice none 0 0) := (hb8.cell (p := ⟨w2.heap.size, 4, none⟩) (by simp; try omega)).trans (by go_simp)
  have c8_1_5 : w8.cell? ⟨w2.heap.size, 5, none⟩ = some (.slice none 0 0) := (hb8.cell (p := ⟨w2.heap.size, 5, none⟩) (by simp; try omega)).trans (by go_simp)
  have c8_2_0 : w8.cell? ⟨w4.heap.size, 0, none⟩ = some (.int .i64 x) := (hb8.cell (p := ⟨w4.heap.size, 0, none⟩) (by simp; try omega)).trans (by go_simp)
  have c8_2_1 : w8.cell? ⟨w4.heap.size, 1, none⟩ = some (.int .i64 y) := (hb8.cell (p := ⟨w4.heap.size, 1, none⟩) (by simp; try omega)).trans (by go_simp)
  have c8_2_2 : w8.cell? ⟨w4.heap.size, 2, none⟩ = some (.int .i64 z) := (hb8.cell (p := ⟨w4.heap.size, 2, none⟩) (by simp; try omega)).trans (by go_simp)
  have c8_2_3 : w8.cell? ⟨w4.heap.size, 3, none⟩ = some (.slice none 0 0) := (hb8.cell (p := ⟨w4.heap.size, 3, none⟩) (by simp; try omega)).trans (by go_simp)
  have c8_2_4 : w8.cell? ⟨w4.heap.size, 4, none⟩ = some (.slice none 0 0) := (hb8.cell (p := ⟨w4.heap.size, 4, none⟩) (by simp; try omega)).trans (by go_simp)
  have c8_2_5 : w8.cell? ⟨w4.heap.size, 5, none⟩ = some (.slice none 0 0) := (hb8.cell (p := ⟨w4.heap.size, 5, none⟩) (by simp; try omega)).trans (by go_simp)
  have B8 : Below w.heap.size w w8 := B7.trans (hb8.mono (by omega))
  clear hb8
  clear c7_0_0 c7_0_1 c7_0_2 c7_0_3
  clear c7_1_0 c7_1_1 c7_1_2 c7_1_3 c7_1_4 c7_1_5
  clear c7_2_0 c7_2_1 c7_2_2 c7_2_3 c7_2_4 c7_2_5
  clear B7
  go_wp2_with fail
  refine (HI.out _).mono ?_
  rintro e w9 ⟨rfl, hb9⟩
  have z9_0 : w.heap.size < w9.heap.size := by have := hb9.size; (try simp at this); omega
  have z9_1 : w2.heap.size < w9.heap.size := by have := hb9.size; (try simp at this); omega
  have z9_2 : w4.heap.size < w9.heap.size := by have := hb9.size; (try simp at this); omega
  have c9_0_0 : w9.cell? ⟨w.heap.size, 0, none⟩ = some (.int .i64 a) := (hb9.cell (p := ⟨w.heap.size, 0, none⟩) (by simp; try omega)).trans (by go_simp)
  have c9_0_1 : w9.cell? ⟨w.heap.size, 1, none⟩ = some (.int .i64 b) := (hb9.cell (p := ⟨w.heap.size, 1, none⟩) (by simp; try omega)).trans (by go_simp)
  have c9_0_2 : w9.cell? ⟨w.heap.size, 2, none⟩ = some (.int .i64 c) := (hb9.cell (p := ⟨w.heap.size, 2, none⟩) (by simp; try omega)).trans (by go_simp)
  have c9_0_3 : w9.cell? ⟨w.heap.size, 3, none⟩ = some (.int .i64 d) := (hb9.cell (p := ⟨w.heap.size, 3, none⟩) (by simp; try omega)).trans (by go_simp)
  have c9_1_0 : w9.cell? ⟨w2.heap.size, 0, none⟩ = some (.int .i64 x) := (hb9.cell (p := ⟨w2.heap.size, 0, none⟩) (by simp; try omega)).trans (by go_simp)
  have c9_1_1 : w9.cell? ⟨w2.heap.size, 1, none⟩ = some (.int .i64 y) := (hb9.cell (p := ⟨w2.heap.size, 1, none⟩) (by simp; try omega)).trans (by go_simp)
  have c9_1_2 : w9.cell? ⟨w2.heap.size, 2, none⟩ = some (.int .i64 z) := (hb9.cell (p := ⟨w2.heap.size, 2, none⟩) (by simp; try omega)).trans (by go_simp)
  have c9_1_3 : w9.cell? ⟨w2.heap.size, 3, none⟩ = some (.slice none 0 0) := (hb9.cell (p := ⟨w2.heap.size, 3, none⟩) (by simp; try omega)).trans (by go_simp)
  have c9_1_4 : w9.cell? ⟨w2.heap.size, 4, none⟩ = some (.slice none 0 0) := (hb9.cell (p := ⟨w2.heap.size, 4, none⟩) (by simp; try omega)).trans (by go_simp)
  have c9_1_5 : w9.cell? ⟨w2.heap.size, 5, none⟩ = some (.slice none 0 0) := (hb9.cell (p := ⟨w2.heap.size, 5, none⟩) (by simp; try omega)).trans (by go_simp)
  have c9_2_0 : w9.cell? ⟨w4.heap.size, 0, none⟩ = some (.int .i64 x) := (hb9.cell (p := ⟨w4.heap.size, 0, none⟩) (by simp; try omega)).trans (by go_simp)
  have c9_2_1 : w9.cell? ⟨w4.heap.size, 1, none⟩ = some (.int .i64 y) := (hb9.cell (p := ⟨w4.heap.size, 1, none⟩) (by simp; try omega)).trans (by go_simp)
  have c9_2_2 : w9.cell? ⟨w4.heap.size, 2, none⟩ = some (.int .i64 z) := (hb9.cell (p := ⟨w4.heap.size, 2, none⟩) (by simp; try omega)).trans (by go_simp)
  have c9_2_3 : w9.cell? ⟨w4.heap.size, 3, none⟩ = some (.slice none 0 0) := (hb9.cell (p := ⟨w4.heap.size, 3, none⟩) (by simp; try omega)).trans (by go_simp)
  have c9_2_4 : w9.cell? ⟨w4.heap.size, 4, none⟩ = some (.slice none 0 0) := (hb9.cell (p := ⟨w4.heap.size, 4, none⟩) (by simp; try omega)).trans (by go_simp)
  have c9_2_5 : w9.cell? ⟨w4.heap.size, 5, none⟩ = some (.slice none 0 0) := (hb9.cell (p := ⟨w4.heap.size, 5, none⟩) (by simp; try omega)).trans (by go_simp)
  have B9 : Below w.heap.size w w9 := B8.trans (hb9.mono (by omega))
  clear hb9
  clear c8_0_0 c8_0_1 c8_0_2 c8_0_3
  clear c8_1_0 c8_1_1 c8_1_2 c8_1_3 c8_1_4 c8_1_5
  clear c8_2_0 c8_2_1 c8_2_2 c8_2_3 c8_2_4 c8_2_5
  clear B8
  go_wp2_with fail
  refine (eqStore_nil _ _ _ _ _ _ _ _ _ _ _ _ _ _ _ _).mono ?_
  rintro e w10 ⟨rfl, hb10⟩
  have z10_0 : w.heap.size < w10.heap.size := by have := hb10.size; (try simp at this); omega
  have z10_1 : w2.heap.size < w10.heap.size := by have := hb10.size; (try simp at this); omega
  have z10_2 : w4.heap.size < w10.heap.size := by have := hb10.size; (try simp at this); omega
  have z10_3 : w9.heap.size < w10.heap.size := by have := hb10.size; (try simp at this); omega
  have c10_0_0 : w10.cell? ⟨w.heap.size, 0, none⟩ = some (.int .i64 a) := (hb10.cell (p := ⟨w.heap.size, 0, none⟩) (by simp; try omega)).trans (by go_simp)
  have c10_0_1 : w10.cell? ⟨w.heap.size, 1, none⟩ = some (.int .i64 b) := (hb10.cell (p := ⟨w.heap.size, 1, none⟩) (by simp; try omega)).trans (by go_simp)
  have c10_0_2 : w10.cell? ⟨w.heap.size, 2, none⟩ = some (.int .i64 c) := (hb10.cell (p := ⟨w.heap.size, 2, none⟩) (by simp; try omega)).trans (by go_simp)
  have c10_0_3 : w10.cell? ⟨w.heap.size, 3, none⟩ = some (.int .i64 d) := (hb10.cell (p := ⟨w.heap.size, 3, none⟩) (by simp; try omega)).trans (by go_simp)
  have c10_1_0 : w10.cell? ⟨w2.heap.size, 0, none⟩ = some (.int .i64 x) := (hb10.cell (p := ⟨w2.heap.size, 0, none⟩) (by simp; try omega)).trans (by go_simp)
  have c10_1_1 : w10.cell? ⟨w2.heap.size, 1, none⟩ = some (.int .i64 y) := (hb10.cell (p := ⟨w2.heap.size, 1, none⟩) (by simp; try omega)).trans (by go_simp)
  have c10_1_2 : w10.cell? ⟨w2.heap.size, 2, none⟩ = some (.int .i64 z) := (hb10.cell (p := ⟨w2.heap.size, 2, none⟩) (by simp; try omega)).trans (by go_simp)
  have c10_1_3 : w10.cell? ⟨w2.heap.size, 3, none⟩ = some (.slice none 0 0) := (hb10.cell (p := ⟨w2.heap.size, 3, none⟩) (by simp; try omega)).trans (by go_simp)
  have c10_1_4 : w10.cell? ⟨w2.heap.size, 4, none⟩ = some (.slice none 0 0) := (hb10.cell (p := ⟨w2.heap.size, 4, none⟩) (by simp; try omega)).trans (by go_simp)
  have c10_1_5 : w10.cell? ⟨w2.heap.size, 5, none⟩ = some (.slice none 0 0) := (hb10.cell (p := ⟨w2.heap.size, 5, none⟩) (by simp; try omega)).trans (by go_simp)
  have c10_2_0 : w10.cell? ⟨w4.heap.size, 0, none⟩ = some (.int .i64 x) := (hb10.cell (p := ⟨w4.heap.size, 0, none⟩) (by simp; try omega)).trans (by go_simp)
  have c10_2_1 : w10.cell? ⟨w4.heap.size, 1, none⟩ = some (.int .i64 y) := (hb10.cell (p := ⟨w4.heap.size, 1, none⟩) (by simp; try omega)).trans (by go_simp)
  have c10_2_2 : w10.cell? ⟨w4.heap.size, 2, none⟩ = some (.int .i64 z) := (hb10.cell (p := ⟨w4.heap.size, 2, none⟩) (by simp; try omega)).trans (by go_simp)
  have c10_2_3 : w10.cell? ⟨w4.heap.size, 3, none⟩ = some (.slice none 0 0) := (hb10.cell (p := ⟨w4.heap.size, 3, none⟩) (by simp; try omega)).trans (by go_simp)
  have c10_2_4 : w10.cell? ⟨w4.heap.size, 4, none⟩ = some (.slice none 0 0) := (hb10.cell (p := ⟨w4.heap.size, 4, none⟩) (by simp; try omega)).trans (by go_simp)
  have c10_2_5 : w10.cell? ⟨w4.heap.size, 5, none⟩ = some (.slice none 0 0) := (hb10.cell (p := ⟨w4.heap.size, 5, none⟩) (by simp; try omega)).trans (by go_simp)
  have c10_3_0 : w10.cell? ⟨w9.heap.size, 0, none⟩ = some (.int .i64 x) := (hb10.cell (p := ⟨w9.heap.size, 0, none⟩) (by simp; try omega)).trans (by go_simp)
  have c10_3_1 : w10.cell? ⟨w9.heap.size, 1, none⟩ = some (.int .i64 y) := (hb10.cell (p := ⟨w9.heap.size, 1, none⟩) (by simp; try omega)).trans (by go_simp)
  have c10_3_2 : w10.cell? ⟨w9.heap.size, 2, none⟩ = some (.int .i64 z) := (hb10.cell (p := ⟨w9.heap.size, 2, none⟩) (by simp; try omega)).trans (by go_simp)
  have c10_3_3 : w10.cell? ⟨w9.heap.size, 3, none⟩ = some (.slice none 0 0) := (hb10.cell (p := ⟨w9.heap.size, 3, none⟩) (by simp; try omega)).trans (by go_simp)
  have c10_3_4 : w10.cell? ⟨w9.heap.size, 4, none⟩ = some (.slice none 0 0) := (hb10.cell (p := ⟨w9.heap.size, 4, none⟩) (by simp; try omega)).trans (by go_simp)
  have c10_3_5 : w10.cell? ⟨w9.heap.size, 5, none⟩ = some (.slice none 0 0) := (hb10.cell (p := ⟨w9.heap.size, 5, none⟩) (by simp; try omega)).trans (by go_simp)
  have B10 : Below w.heap.size w w10 := (B9.alloc (by omega) _).trans (hb10.mono (by simp; omega))
  clear hb10
  clear c9_0_0 c9_0_1 c9_0_2 c9_0_3
  clear c9_1_0 c9_1_1 c9_1_2 c9_1_3 c9_1_4 c9_1_5
  clear c9_2_0 c9_2_1 c9_2_2 c9_2_3 c9_2_4 c9_2_5
  clear B9
  go_wp2_with fail
  refine (heldStore_nil _ _ _ _ _ _ _ _ _ _ (by decide) _).mono ?_
  rintro e w11 ⟨rfl, hb11⟩
  have z11_0 : w.heap.size < w11.heap.size := by have := hb11.size; (try simp at this); omega
  have z11_1 : w2.heap.size < w11.heap.size := by have := hb11.size; (try simp at this); omega
  have z11_2 : w4.heap.size < w11.heap.size := by have := hb11.size; (try simp at this); omega
  have z11_3 : w9.heap.size < w11.heap.size := by have := hb11.size; (try simp at this); omega
  have c11_0_0 : w11.cell? ⟨w.heap.size, 0, none⟩ = some (.int .i64 a) := (hb11.cell (p := ⟨w.heap.size, 0, none⟩) (by simp; try omega)).trans (by go_simp)
  have c11_0_1 : w11.cell? ⟨w.heap.size, 1, none⟩ = some (.int .i64 b) := (hb11.cell (p := ⟨w.heap.size, 1, none⟩) (by simp; try omega)).trans (by go_simp)
  have c11_0_2 : w11.cell? ⟨w.heap.size, 2, none⟩ = some (.int .i64 c) := (hb11.cell (p := ⟨w.heap.size, 2, none⟩) (by simp; try omega)).trans (by go_simp)
  have c11_0_3 : w11.cell? ⟨w.heap.size, 3, none⟩ = some (.int .i64 d) := (hb11.cell (p := ⟨w.heap.size, 3, none⟩) (by simp; try omega)).trans (by go_simp)
  have c11_1_0 : w11.cell? ⟨w2.heap.size, 0, none⟩ = some (.int .i64 x) := (hb11.cell (p := ⟨w2.heap.size, 0, none⟩) (by simp; try omega)).trans (by go_simp)
  have c11_1_1 : w11.cell? ⟨w2.heap.size, 1, none⟩ = some (.int .i64 y) := (hb11.cell (p := ⟨w2.heap.size, 1, none⟩) (by simp; try omega)).trans (by go_simp)
  have c11_1_2 : w11.cell? ⟨w2.heap.size, 2, none⟩ = some (.int .i64 z) := (hb11.cell (p := ⟨w2.heap.size, 2, none⟩) (by simp; try omega)).trans (by go_simp)
  have c11_1_3 : w11.cell? ⟨w2.heap.size, 3, none⟩ = some (.slice none 0 0) := (hb11.cell (p := ⟨w2.heap.size, 3, none⟩) (by simp; try omega)).trans (by go_simp)
  have c11_1_4 : w11.cell? ⟨w2.heap.size, 4, none⟩ = some (.slice none 0 0) := (hb11.cell (p := ⟨w2.heap.size, 4, none⟩) (by simp; try omega)).trans (by go_simp)
  have c11_1_5 : w11.cell? ⟨w2.heap.size, 5, none⟩ = some (.slice none 0 0) := (hb11.cell (p := ⟨w2.heap.size, 5, none⟩) (by simp; try omega)).trans (by go_simp)
  have c11_2_0 : w11.cell? ⟨w4.heap.size, 0, none⟩ = some (.int .i64 x) := (hb11.cell (p := ⟨w4.heap.size, 0, none⟩) (by simp; try omega)).trans (by go_simp)
  have c11_2_1 : w11.cell? ⟨w4.heap.size, 1, none⟩ = some (.int .i64 y) := (hb11.cell (p := ⟨w4.heap.size, 1, none⟩) (by simp; try omega)).trans (by go_simp)
  have c11_2_2 : w11.cell? ⟨w4.heap.size, 2, none⟩ = some (.int .i64 z) := (hb11.cell (p := ⟨w4.heap.size, 2, none⟩) (by simp; try omega)).trans (by go_simp)
  have c11_2_3 : w11.cell? ⟨w4.heap.size, 3, none⟩ = some (.slice none 0 0) := (hb11.cell (p := ⟨w4.heap.size, 3, none⟩) (by simp; try omega)).trans (by go_simp)
  have c11_2_4 : w11.cell? ⟨w4.heap.size, 4, none⟩ = some (.slice none 0 0) := (hb11.cell (p := ⟨w4.heap.size, 4, none⟩) (by simp; try omega)).trans (by go_simp)
  have c11_2_5 : w11.cell? ⟨w4.heap.size, 5, none⟩ = some (.slice none 0 0) := (hb11.cell (p := ⟨w4.heap.size, 5, none⟩) (by simp; try omega)).trans (by go_simp)
  have c11_3_0 : w11.cell? ⟨w9.heap.size, 0, none⟩ = some (.int .i64 x) := (hb11.cell (p := ⟨w9.heap.size, 0, none⟩) (by simp; try omega)).trans (by go_simp)
  have c11_3_1 : w11.cell? ⟨w9.heap.size, 1, none⟩ = some (.int .i64 y) := (hb11.cell (p := ⟨w9.heap.size, 1, none⟩) (by simp; try omega)).trans (by go_simp)
  have c11_3_2 : w11.cell? ⟨w9.heap.size, 2, none⟩ = some (.int .i64 z) := (hb11.cell (p := ⟨w9.heap.size, 2, none⟩) (by simp; try omega)).trans (by go_simp)
  have c11_3_3 : w11.cell? ⟨w9.heap.size, 3, none⟩ = some (.slice none 0 0) := (hb11.cell (p := ⟨w9.heap.size, 3, none⟩) (by simp; try omega)).trans (by go_simp)
  have c11_3_4 : w11.cell? ⟨w9.heap.size, 4, none⟩ = some (.slice none 0 0) := (hb11.cell (p := ⟨w9.heap.size, 4, none⟩) (by simp; try omega)).trans (by go_simp)
  have c11_3_5 : w11.cell? ⟨w9.heap.size, 5, none⟩ = some (.slice none 0 0) := (hb11.cell (p := ⟨w9.heap.size, 5, none⟩) (by simp; try omega)).trans (by go_simp)
  have B11 : Below w.heap.size w w11 := B10.trans (hb11.mono (by omega))
  clear hb11
  clear c10_0_0 c10_0_1 c10_0_2 c10_0_3
  clear c10_1_0 c10_1_1 c10_1_2 c10_1_3 c10_1_4 c10_1_5
  clear c10_2_0 c10_2_1 c10_2_2 c10_2_3 c10_2_4 c10_2_5
  clear c10_3_0 c10_3_1 c10_3_2 c10_3_3 c10_3_4 c10_3_5
  clear B10
  go_wp2
  go_ret
  exact ⟨rfl, B11⟩
theorem time_f (t : Int) : spec_l3Time.f t = some (decide (0 ≤ t ∧ t ≤ 1000000000000)) ∧ impl_isTime.f t = some (decide (0 ≤ t ∧ t ≤ 1000000000000)) := by
  unfold spec_l3Time.f impl_isTime.f
  by_cases h : t ≥ 0
  · rw [if_pos h]
    refine ⟨?_, ?_⟩ <;> (congr 1; rw [decide_eq_decide]; omega)
  · rw [if_neg h]
    refine ⟨?_, ?_⟩ <;> (congr 1; symm; rw [decide_eq_false_iff_not]; omega)
theorem good_same (a b c d : Int) : ∃ g, spec_GoodConf.f a b c d = some g ∧ impl_GoodConf.f a b c d = some g ∧ (g = true → 0 ≤ a ∧ a ≤ 1000000000000 ∧ 0 ≤ b ∧ b ≤ 200) := by
  unfold spec_GoodConf.f impl_GoodConf.f impl_goodWindow.f
  simp only [(time_f a).1, (time_f a).2, (time_f d).1, (time_f d).2, Option.bind_some]
  by_cases h1 : 0 ≤ a ∧ a ≤ 1000000000000
  · simp only [show decide (0 ≤ a ∧ a ≤ 1000000000000) = true from decide_eq_true h1, if_true]
    by_cases h2 : b ≥ 0
    · simp only [if_pos h2, Option.bind_some]
      by_cases h3 : b ≤ 200
      · simp only [if_pos h3, decide_eq_true h3, if_true]
        by_cases h4 : c ≥ 1
        · simp only [if_pos h4]
          by_cases h5 : c ≤ 1000000
          · simp only [if_pos h5]
            exact ⟨_, rfl, rfl, fun _ => ⟨h1.1, h1.2, h2, h3⟩⟩
          · simp only [if_neg h5]
            exact ⟨_, rfl, rfl, fun e => by cases e⟩
        · simp only [if_neg h4]
          exact ⟨_, rfl, rfl, fun e => by cases e⟩
      · simp only [if_neg h3, decide_eq_false h3, Bool.false_eq_true, if_false]
        exact ⟨_, rfl, rfl, fun e => by cases e⟩
    · simp only [if_neg h2, Option.bind_some, Bool.false_eq_true, if_false]
      exact ⟨_, rfl, rfl, fun e => by cases e⟩
  · simp only [show decide (0 ≤ a ∧ a ≤ 1000000000000) = false from decide_eq_false h1, Bool.false_eq_true, if_false, Option.bind_some]
    exact ⟨_, rfl, rfl, fun e => by cases e⟩
def laws_FnExactNewStore.f (a0_0 : Int) (a0_1 : Int) (a0_2 : Int) (a0_3 : Int) : Option (Bool) := some true
theorem laws_FnExactNewStore.calls (a0_0 : Int) (a0_1 : Int) (a0_2 : Int) (a0_3 : Int) (r : Bool) (w : World) (h : laws_FnExactNewStore.f a0_0 a0_1 a0_2 a0_3 = some r) :
  Calls Try.prog 7 #[.agg #[.int .i64 a0_0, .int .i64 a0_1, .int .i64 a0_2, .int .i64 a0_3]] w fun e w' => e = .returned (.bool r) ∧ Below w.heap.size w w' := by
  obtain rfl : true = r := Option.some.inj h
  obtain ⟨g, hs, hi, hg⟩ := good_same a0_0 a0_1 a0_2 a0_3
  cases g with
  | false => exact law_walk _ _ _ _ 0 0 0 (fun w => specStore_no _ _ _ _ hs w) (fun w => implStore_no _ _ _ _ hi w) w
  | true =>
    obtain ⟨h0, h1, h2, h3⟩ := hg rfl
    exact law_walk _ _ _ _ a0_0 a0_1 (-1) (fun w => specStore_yes _ _ _ _ hs h0 h1 h2 h3 w) (fun w => implStore_yes _ _ _ _ hi h0 h1 h2 h3 w) w
end Go.Proofs.Ytppifefhpjhmaab.PFnExactNewStore
