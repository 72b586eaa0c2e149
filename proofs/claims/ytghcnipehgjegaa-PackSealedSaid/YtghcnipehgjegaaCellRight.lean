/- What cell.Right and cell.Moment answer. Conditions stand in each statement. -/
import Derived.Test.YtghcnipehgjegaaCellSame
import Derived.Test.YtghcnipehgjegaaCellCode
import Derived.ChangeAlike
import Derived.RegionTactic
namespace Go.Proofs.Ytghcnipehgjegaa.Cell
open Go.RowKit Go.Proofs.YtghcnipehgjegaaW.PrintWords Go.Proofs.YtghcnipehgjegaaW.PrintLast Go.Proofs.YtghcnipehgjegaaW.PrintMore Go.Proofs.Ytghcnipehgjegaa.Kit Go.Proofs.Ytghcnipehgjegaa.Plain
set_option linter.unusedVariables false
set_option linter.unusedSimpArgs false
set_option maxHeartbeats 3200000 in
set_option maxRecDepth 100000 in
theorem right_prb (x : Cel) (A : Option Addr) (c : Nat) (w : World) (hr : RdN w A x.body.length x.body) (hy : Byt x.body) (hV : Aside0 (partsV x.kind = .agg #[.bool true, .bool true, .bool false, .bool true])) (hK : Aside0 (hasKind x.kind = true)) (hR : Aside0 (rightB x = (sameB x ⟨x.kind, x.num, x.min, x.br, x.vol, x.blk, x.ref, 0, 0, 0, x.body⟩ && (decide (1 ≤ x.num) && (decide (x.num ≤ 65535) && (within x.min 1073741824 && fieldsB x)))))) :
    Calls Try.prog 34 #[.agg (celA x A c)] w fun e w' => e = .returned (.bool (rightB x)) ∧ Below w.heap.size w w' := by
  have HR := Aside0.mk hr
  have HY := Aside0.mk hy
  clear hr hy
  go_enter Try.func34, Try.ntmps34
  go_upto_region 11 with (go_at_call 36; go_must (refine (has_any x.kind _).mono ?_; rintro e w1 ⟨rfl, hb⟩; rw [hV.out, hK.out]; have hlt : w.heap.size < w1.heap.size := Nat.lt_of_lt_of_le (by simp) hb.size; have hx : w1.heap[w.heap.size]? = some (.cells (celA x A c) 30 (0, 0)) := (hb.block _ (by simp)).trans (blk_new w _); obtain ⟨c0, c1, c2, c3, c4, c5, c6, c7, c8, c9⟩ := cel_at hx; have c10 : w1.cell? ⟨w.heap.size, 10, none⟩ = some (.slice A x.body.length c) := blk_cell hx 10; have HB := Aside0.mk ((below_alloc (Below.refl w.heap.size w) (.cells (celA x A c) 30)).trans (hb.mono (by simp))); clear hx hb))
  obtain ⟨W2, hW2⟩ : ∃ W2, W2 = ((w1.alloc (.cells #[.bool true, .bool true, .bool false, .bool true] 84)).alloc (.cells #[.int .i64 x.kind, .int .u64 x.num, .int .i64 x.min, .int .i64 x.br, .int .i64 x.vol, .int .i64 x.blk, .int .u64 x.ref, .int .i64 0, .int .i64 0, .int .i64 0, .slice A x.body.length c] 30)) := ⟨_, rfl⟩
  rw [← hW2]
  have hb2 : Below w1.heap.size w1 W2 := by rw [hW2]; exact below_alloc (below_alloc (Below.refl _ _) _) _
  have hd : W2.heap[w1.heap.size + 1]? = some (.cells (celA ⟨x.kind, x.num, x.min, x.br, x.vol, x.blk, x.ref, 0, 0, 0, x.body⟩ A c) 30 (0, 0)) := by
    have h1 := blk_new (w1.alloc (.cells #[.bool true, .bool true, .bool false, .bool true] 84)) (.cells #[.int .i64 x.kind, .int .u64 x.num, .int .i64 x.min, .int .i64 x.br, .int .i64 x.vol, .int .i64 x.blk, .int .u64 x.ref, .int .i64 0, .int .i64 0, .int .i64 0, .slice A x.body.length c] 30)
    rw [show (w1.alloc (.cells #[.bool true, .bool true, .bool false, .bool true] 84)).heap.size = w1.heap.size + 1 by simp] at h1
    rw [hW2]; exact h1
  have d0 : W2.cell? ⟨w1.heap.size + 1, 0, none⟩ = some (.int .i64 x.kind) := blk_cell hd 0
  obtain ⟨_, d1, d2, d3, d4, d5, d6, d7, d8, d9⟩ := cel_at hd
  have d10 : W2.cell? ⟨w1.heap.size + 1, 10, none⟩ = some (.slice A x.body.length c) := blk_cell hd 10
  replace c0 := pw_cell_below hb2 c0
  replace c1 := pw_cell_below hb2 c1
  replace c2 := pw_cell_below hb2 c2
  replace c3 := pw_cell_below hb2 c3
  replace c4 := pw_cell_below hb2 c4
  replace c5 := pw_cell_below hb2 c5
  replace c6 := pw_cell_below hb2 c6
  replace c7 := pw_cell_below hb2 c7
  replace c8 := pw_cell_below hb2 c8
  replace c9 := pw_cell_below hb2 c9
  replace c10 := pw_cell_below hb2 c10
  replace HB := Aside0.mk (HB.out.trans (hb2.mono HB.out.size))
  simp only at d0 d1 d2 d3 d4 d5 d6 d7 d8 d9
  clear hW2 hb2 hd
  cases hS : sameB x ⟨x.kind, x.num, x.min, x.br, x.vol, x.blk, x.ref, 0, 0, 0, x.body⟩ with
  | false =>
    have HE := Aside0.mk (show rightB x = false by rw [hR.out, hS]; simp)
    go_wp2_with (first | (go_at_call 43; go_must (refine (same_any x ⟨x.kind, x.num, x.min, x.br, x.vol, x.blk, x.ref, 0, 0, 0, x.body⟩ A A c c _ (Kd.C_below HR.out HB.out) (Kd.C_below HR.out HB.out) HY.out HY.out).mono ?_; rintro e w3 ⟨rfl, hb⟩; rw [hS]; replace c0 := pw_cell_below hb c0; replace c1 := pw_cell_below hb c1; replace c2 := pw_cell_below hb c2; replace c3 := pw_cell_below hb c3; replace c4 := pw_cell_below hb c4; replace c5 := pw_cell_below hb c5; replace c6 := pw_cell_below hb c6; replace c7 := pw_cell_below hb c7; replace c8 := pw_cell_below hb c8; replace c9 := pw_cell_below hb c9; replace c10 := pw_cell_below hb c10; replace HB := Aside0.mk (HB.out.trans (hb.mono HB.out.size)); clear hb)) | (go_at_call 44; go_must (refine (within_any x.min 1073741824 _).mono ?_; rintro e w4 ⟨rfl, rfl⟩; rw [hM])) | (go_at_call 45; go_must (refine (fields_any x A c _).mono ?_; rintro e w5 ⟨rfl, hb⟩; replace HB := Aside0.mk (HB.out.trans (hb.mono HB.out.size)); clear hb)))
    go_ret
    exact ⟨retB HE.out.symm, HB.out⟩
  | true =>
    cases hN1 : decide (1 ≤ x.num) with
    | false =>
      have HE := Aside0.mk (show rightB x = false by rw [hR.out, hS, hN1]; simp)
      go_wp2_with (first | (go_at_call 43; go_must (refine (same_any x ⟨x.kind, x.num, x.min, x.br, x.vol, x.blk, x.ref, 0, 0, 0, x.body⟩ A A c c _ (Kd.C_below HR.out HB.out) (Kd.C_below HR.out HB.out) HY.out HY.out).mono ?_; rintro e w3 ⟨rfl, hb⟩; rw [hS]; replace c0 := pw_cell_below hb c0; replace c1 := pw_cell_below hb c1; replace c2 := pw_cell_below hb c2; replace c3 := pw_cell_below hb c3; replace c4 := pw_cell_below hb c4; replace c5 := pw_cell_below hb c5; replace c6 := pw_cell_below hb c6; replace c7 := pw_cell_below hb c7; replace c8 := pw_cell_below hb c8; replace c9 := pw_cell_below hb c9; replace c10 := pw_cell_below hb c10; replace HB := Aside0.mk (HB.out.trans (hb.mono HB.out.size)); clear hb)) | (go_at_call 44; go_must (refine (within_any x.min 1073741824 _).mono ?_; rintro e w4 ⟨rfl, rfl⟩; rw [hM])) | (go_at_call 45; go_must (refine (fields_any x A c _).mono ?_; rintro e w5 ⟨rfl, hb⟩; replace HB := Aside0.mk (HB.out.trans (hb.mono HB.out.size)); clear hb)))
      go_ret
      exact ⟨retB HE.out.symm, HB.out⟩
    | true =>
      cases hN2 : decide (x.num ≤ 65535) with
      | false =>
        have HE := Aside0.mk (show rightB x = false by rw [hR.out, hS, hN1, hN2]; simp)
        go_wp2_with (first | (go_at_call 43; go_must (refine (same_any x ⟨x.kind, x.num, x.min, x.br, x.vol, x.blk, x.ref, 0, 0, 0, x.body⟩ A A c c _ (Kd.C_below HR.out HB.out) (Kd.C_below HR.out HB.out) HY.out HY.out).mono ?_; rintro e w3 ⟨rfl, hb⟩; rw [hS]; replace c0 := pw_cell_below hb c0; replace c1 := pw_cell_below hb c1; replace c2 := pw_cell_below hb c2; replace c3 := pw_cell_below hb c3; replace c4 := pw_cell_below hb c4; replace c5 := pw_cell_below hb c5; replace c6 := pw_cell_below hb c6; replace c7 := pw_cell_below hb c7; replace c8 := pw_cell_below hb c8; replace c9 := pw_cell_below hb c9; replace c10 := pw_cell_below hb c10; replace HB := Aside0.mk (HB.out.trans (hb.mono HB.out.size)); clear hb)) | (go_at_call 44; go_must (refine (within_any x.min 1073741824 _).mono ?_; rintro e w4 ⟨rfl, rfl⟩; rw [hM])) | (go_at_call 45; go_must (refine (fields_any x A c _).mono ?_; rintro e w5 ⟨rfl, hb⟩; replace HB := Aside0.mk (HB.out.trans (hb.mono HB.out.size)); clear hb)))
        go_ret
        exact ⟨retB HE.out.symm, HB.out⟩
      | true =>
        cases hM : within x.min 1073741824 with
        | false =>
          have HE := Aside0.mk (show rightB x = false by rw [hR.out, hS, hN1, hN2, hM]; simp)
          go_wp2_with (first | (go_at_call 43; go_must (refine (same_any x ⟨x.kind, x.num, x.min, x.br, x.vol, x.blk, x.ref, 0, 0, 0, x.body⟩ A A c c _ (Kd.C_below HR.out HB.out) (Kd.C_below HR.out HB.out) HY.out HY.out).mono ?_; rintro e w3 ⟨rfl, hb⟩; rw [hS]; replace c0 := pw_cell_below hb c0; replace c1 := pw_cell_below hb c1; replace c2 := pw_cell_below hb c2; replace c3 := pw_cell_below hb c3; replace c4 := pw_cell_below hb c4; replace c5 := pw_cell_below hb c5; replace c6 := pw_cell_below hb c6; replace c7 := pw_cell_below hb c7; replace c8 := pw_cell_below hb c8; replace c9 := pw_cell_below hb c9; replace c10 := pw_cell_below hb c10; replace HB := Aside0.mk (HB.out.trans (hb.mono HB.out.size)); clear hb)) | (go_at_call 44; go_must (refine (within_any x.min 1073741824 _).mono ?_; rintro e w4 ⟨rfl, rfl⟩; rw [hM])) | (go_at_call 45; go_must (refine (fields_any x A c _).mono ?_; rintro e w5 ⟨rfl, hb⟩; replace HB := Aside0.mk (HB.out.trans (hb.mono HB.out.size)); clear hb)))
          go_ret
          exact ⟨retB HE.out.symm, HB.out⟩
        | true =>
          have HE := Aside0.mk (show rightB x = fieldsB x by rw [hR.out, hS, hN1, hN2, hM]; simp)
          go_wp2_with (first | (go_at_call 43; go_must (refine (same_any x ⟨x.kind, x.num, x.min, x.br, x.vol, x.blk, x.ref, 0, 0, 0, x.body⟩ A A c c _ (Kd.C_below HR.out HB.out) (Kd.C_below HR.out HB.out) HY.out HY.out).mono ?_; rintro e w3 ⟨rfl, hb⟩; rw [hS]; replace c0 := pw_cell_below hb c0; replace c1 := pw_cell_below hb c1; replace c2 := pw_cell_below hb c2; replace c3 := pw_cell_below hb c3; replace c4 := pw_cell_below hb c4; replace c5 := pw_cell_below hb c5; replace c6 := pw_cell_below hb c6; replace c7 := pw_cell_below hb c7; replace c8 := pw_cell_below hb c8; replace c9 := pw_cell_below hb c9; replace c10 := pw_cell_below hb c10; replace HB := Aside0.mk (HB.out.trans (hb.mono HB.out.size)); clear hb)) | (go_at_call 44; go_must (refine (within_any x.min 1073741824 _).mono ?_; rintro e w4 ⟨rfl, rfl⟩; rw [hM])) | (go_at_call 45; go_must (refine (fields_any x A c _).mono ?_; rintro e w5 ⟨rfl, hb⟩; replace HB := Aside0.mk (HB.out.trans (hb.mono HB.out.size)); clear hb)))
          go_ret
          exact ⟨retB HE.out.symm, HB.out⟩
set_option maxHeartbeats 3200000 in
set_option maxRecDepth 100000 in
theorem right_pr (x : Cel) (A : Option Addr) (c : Nat) (w : World) (hr : RdN w A x.body.length x.body) (hy : Byt x.body) (hV : Aside0 (partsV x.kind = .agg #[.bool true, .bool true, .bool false, .bool false])) (hK : Aside0 (hasKind x.kind = true)) (hR : Aside0 (rightB x = (sameB x ⟨x.kind, x.num, x.min, x.br, x.vol, x.blk, x.ref, 0, 0, 0, []⟩ && (decide (1 ≤ x.num) && (decide (x.num ≤ 65535) && (within x.min 1073741824 && fieldsB x)))))) :
    Calls Try.prog 34 #[.agg (celA x A c)] w fun e w' => e = .returned (.bool (rightB x)) ∧ Below w.heap.size w w' := by
  have HR := Aside0.mk hr
  have HY := Aside0.mk hy
  clear hr hy
  go_enter Try.func34, Try.ntmps34
  go_upto_region 11 with (go_at_call 36; go_must (refine (has_any x.kind _).mono ?_; rintro e w1 ⟨rfl, hb⟩; rw [hV.out, hK.out]; have hlt : w.heap.size < w1.heap.size := Nat.lt_of_lt_of_le (by simp) hb.size; have hx : w1.heap[w.heap.size]? = some (.cells (celA x A c) 30 (0, 0)) := (hb.block _ (by simp)).trans (blk_new w _); obtain ⟨c0, c1, c2, c3, c4, c5, c6, c7, c8, c9⟩ := cel_at hx; have c10 : w1.cell? ⟨w.heap.size, 10, none⟩ = some (.slice A x.body.length c) := blk_cell hx 10; have HB := Aside0.mk ((below_alloc (Below.refl w.heap.size w) (.cells (celA x A c) 30)).trans (hb.mono (by simp))); clear hx hb))
  obtain ⟨W2, hW2⟩ : ∃ W2, W2 = ((w1.alloc (.cells #[.bool true, .bool true, .bool false, .bool false] 84)).alloc (.cells #[.int .i64 x.kind, .int .u64 x.num, .int .i64 x.min, .int .i64 x.br, .int .i64 x.vol, .int .i64 x.blk, .int .u64 x.ref, .int .i64 0, .int .i64 0, .int .i64 0, .slice none 0 0] 30)) := ⟨_, rfl⟩
  rw [← hW2]
  have hb2 : Below w1.heap.size w1 W2 := by rw [hW2]; exact below_alloc (below_alloc (Below.refl _ _) _) _
  have hd : W2.heap[w1.heap.size + 1]? = some (.cells (celA ⟨x.kind, x.num, x.min, x.br, x.vol, x.blk, x.ref, 0, 0, 0, []⟩ none 0) 30 (0, 0)) := by
    have h1 := blk_new (w1.alloc (.cells #[.bool true, .bool true, .bool false, .bool false] 84)) (.cells #[.int .i64 x.kind, .int .u64 x.num, .int .i64 x.min, .int .i64 x.br, .int .i64 x.vol, .int .i64 x.blk, .int .u64 x.ref, .int .i64 0, .int .i64 0, .int .i64 0, .slice none 0 0] 30)
    rw [show (w1.alloc (.cells #[.bool true, .bool true, .bool false, .bool false] 84)).heap.size = w1.heap.size + 1 by simp] at h1
    rw [hW2]; exact h1
  have d0 : W2.cell? ⟨w1.heap.size + 1, 0, none⟩ = some (.int .i64 x.kind) := blk_cell hd 0
  obtain ⟨_, d1, d2, d3, d4, d5, d6, d7, d8, d9⟩ := cel_at hd
  have d10 : W2.cell? ⟨w1.heap.size + 1, 10, none⟩ = some (.slice none 0 0) := blk_cell hd 10
  replace c0 := pw_cell_below hb2 c0
  replace c1 := pw_cell_below hb2 c1
  replace c2 := pw_cell_below hb2 c2
  replace c3 := pw_cell_below hb2 c3
  replace c4 := pw_cell_below hb2 c4
  replace c5 := pw_cell_below hb2 c5
  replace c6 := pw_cell_below hb2 c6
  replace c7 := pw_cell_below hb2 c7
  replace c8 := pw_cell_below hb2 c8
  replace c9 := pw_cell_below hb2 c9
  replace c10 := pw_cell_below hb2 c10
  replace HB := Aside0.mk (HB.out.trans (hb2.mono HB.out.size))
  simp only at d0 d1 d2 d3 d4 d5 d6 d7 d8 d9
  clear hW2 hb2 hd
  cases hS : sameB x ⟨x.kind, x.num, x.min, x.br, x.vol, x.blk, x.ref, 0, 0, 0, []⟩ with
  | false =>
    have HE := Aside0.mk (show rightB x = false by rw [hR.out, hS]; simp)
    go_wp2_with (first | (go_at_call 43; go_must (refine (same_any x ⟨x.kind, x.num, x.min, x.br, x.vol, x.blk, x.ref, 0, 0, 0, []⟩ A none c 0 _ (Kd.C_below HR.out HB.out) (RdB_nil _) HY.out Byt.nil).mono ?_; rintro e w3 ⟨rfl, hb⟩; rw [hS]; replace c0 := pw_cell_below hb c0; replace c1 := pw_cell_below hb c1; replace c2 := pw_cell_below hb c2; replace c3 := pw_cell_below hb c3; replace c4 := pw_cell_below hb c4; replace c5 := pw_cell_below hb c5; replace c6 := pw_cell_below hb c6; replace c7 := pw_cell_below hb c7; replace c8 := pw_cell_below hb c8; replace c9 := pw_cell_below hb c9; replace c10 := pw_cell_below hb c10; replace HB := Aside0.mk (HB.out.trans (hb.mono HB.out.size)); clear hb)) | (go_at_call 44; go_must (refine (within_any x.min 1073741824 _).mono ?_; rintro e w4 ⟨rfl, rfl⟩; rw [hM])) | (go_at_call 45; go_must (refine (fields_any x A c _).mono ?_; rintro e w5 ⟨rfl, hb⟩; replace HB := Aside0.mk (HB.out.trans (hb.mono HB.out.size)); clear hb)))
    go_ret
    exact ⟨retB HE.out.symm, HB.out⟩
  | true =>
    cases hN1 : decide (1 ≤ x.num) with
    | false =>
      have HE := Aside0.mk (show rightB x = false by rw [hR.out, hS, hN1]; simp)
      go_wp2_with (first | (go_at_call 43; go_must (refine (same_any x ⟨x.kind, x.num, x.min, x.br, x.vol, x.blk, x.ref, 0, 0, 0, []⟩ A none c 0 _ (Kd.C_below HR.out HB.out) (RdB_nil _) HY.out Byt.nil).mono ?_; rintro e w3 ⟨rfl, hb⟩; rw [hS]; replace c0 := pw_cell_below hb c0; replace c1 := pw_cell_below hb c1; replace c2 := pw_cell_below hb c2; replace c3 := pw_cell_below hb c3; replace c4 := pw_cell_below hb c4; replace c5 := pw_cell_below hb c5; replace c6 := pw_cell_below hb c6; replace c7 := pw_cell_below hb c7; replace c8 := pw_cell_below hb c8; replace c9 := pw_cell_below hb c9; replace c10 := pw_cell_below hb c10; replace HB := Aside0.mk (HB.out.trans (hb.mono HB.out.size)); clear hb)) | (go_at_call 44; go_must (refine (within_any x.min 1073741824 _).mono ?_; rintro e w4 ⟨rfl, rfl⟩; rw [hM])) | (go_at_call 45; go_must (refine (fields_any x A c _).mono ?_; rintro e w5 ⟨rfl, hb⟩; replace HB := Aside0.mk (HB.out.trans (hb.mono HB.out.size)); clear hb)))
      go_ret
      exact ⟨retB HE.out.symm, HB.out⟩
    | true =>
      cases hN2 : decide (x.num ≤ 65535) with
      | false =>
        have HE := Aside0.mk (show rightB x = false by rw [hR.out, hS, hN1, hN2]; simp)
        go_wp2_with (first | (go_at_call 43; go_must (refine (same_any x ⟨x.kind, x.num, x.min, x.br, x.vol, x.blk, x.ref, 0, 0, 0, []⟩ A none c 0 _ (Kd.C_below HR.out HB.out) (RdB_nil _) HY.out Byt.nil).mono ?_; rintro e w3 ⟨rfl, hb⟩; rw [hS]; replace c0 := pw_cell_below hb c0; replace c1 := pw_cell_below hb c1; replace c2 := pw_cell_below hb c2; replace c3 := pw_cell_below hb c3; replace c4 := pw_cell_below hb c4; replace c5 := pw_cell_below hb c5; replace c6 := pw_cell_below hb c6; replace c7 := pw_cell_below hb c7; replace c8 := pw_cell_below hb c8; replace c9 := pw_cell_below hb c9; replace c10 := pw_cell_below hb c10; replace HB := Aside0.mk (HB.out.trans (hb.mono HB.out.size)); clear hb)) | (go_at_call 44; go_must (refine (within_any x.min 1073741824 _).mono ?_; rintro e w4 ⟨rfl, rfl⟩; rw [hM])) | (go_at_call 45; go_must (refine (fields_any x A c _).mono ?_; rintro e w5 ⟨rfl, hb⟩; replace HB := Aside0.mk (HB.out.trans (hb.mono HB.out.size)); clear hb)))
        go_ret
        exact ⟨retB HE.out.symm, HB.out⟩
      | true =>
        cases hM : within x.min 1073741824 with
        | false =>
          have HE := Aside0.mk (show rightB x = false by rw [hR.out, hS, hN1, hN2, hM]; simp)
          go_wp2_with (first | (go_at_call 43; go_must (refine (same_any x ⟨x.kind, x.num, x.min, x.br, x.vol, x.blk, x.ref, 0, 0, 0, []⟩ A none c 0 _ (Kd.C_below HR.out HB.out) (RdB_nil _) HY.out Byt.nil).mono ?_; rintro e w3 ⟨rfl, hb⟩; rw [hS]; replace c0 := pw_cell_below hb c0; replace c1 := pw_cell_below hb c1; replace c2 := pw_cell_below hb c2; replace c3 := pw_cell_below hb c3; replace c4 := pw_cell_below hb c4; replace c5 := pw_cell_below hb c5; replace c6 := pw_cell_below hb c6; replace c7 := pw_cell_below hb c7; replace c8 := pw_cell_below hb c8; replace c9 := pw_cell_below hb c9; replace c10 := pw_cell_below hb c10; replace HB := Aside0.mk (HB.out.trans (hb.mono HB.out.size)); clear hb)) | (go_at_call 44; go_must (refine (within_any x.min 1073741824 _).mono ?_; rintro e w4 ⟨rfl, rfl⟩; rw [hM])) | (go_at_call 45; go_must (refine (fields_any x A c _).mono ?_; rintro e w5 ⟨rfl, hb⟩; replace HB := Aside0.mk (HB.out.trans (hb.mono HB.out.size)); clear hb)))
          go_ret
          exact ⟨retB HE.out.symm, HB.out⟩
        | true =>
          have HE := Aside0.mk (show rightB x = fieldsB x by rw [hR.out, hS, hN1, hN2, hM]; simp)
          go_wp2_with (first | (go_at_call 43; go_must (refine (same_any x ⟨x.kind, x.num, x.min, x.br, x.vol, x.blk, x.ref, 0, 0, 0, []⟩ A none c 0 _ (Kd.C_below HR.out HB.out) (RdB_nil _) HY.out Byt.nil).mono ?_; rintro e w3 ⟨rfl, hb⟩; rw [hS]; replace c0 := pw_cell_below hb c0; replace c1 := pw_cell_below hb c1; replace c2 := pw_cell_below hb c2; replace c3 := pw_cell_below hb c3; replace c4 := pw_cell_below hb c4; replace c5 := pw_cell_below hb c5; replace c6 := pw_cell_below hb c6; replace c7 := pw_cell_below hb c7; replace c8 := pw_cell_below hb c8; replace c9 := pw_cell_below hb c9; replace c10 := pw_cell_below hb c10; replace HB := Aside0.mk (HB.out.trans (hb.mono HB.out.size)); clear hb)) | (go_at_call 44; go_must (refine (within_any x.min 1073741824 _).mono ?_; rintro e w4 ⟨rfl, rfl⟩; rw [hM])) | (go_at_call 45; go_must (refine (fields_any x A c _).mono ?_; rintro e w5 ⟨rfl, hb⟩; replace HB := Aside0.mk (HB.out.trans (hb.mono HB.out.size)); clear hb)))
          go_ret
          exact ⟨retB HE.out.symm, HB.out⟩
set_option maxHeartbeats 3200000 in
set_option maxRecDepth 100000 in
theorem right_p (x : Cel) (A : Option Addr) (c : Nat) (w : World) (hr : RdN w A x.body.length x.body) (hy : Byt x.body) (hV : Aside0 (partsV x.kind = .agg #[.bool true, .bool false, .bool false, .bool false])) (hK : Aside0 (hasKind x.kind = true)) (hR : Aside0 (rightB x = (sameB x ⟨x.kind, x.num, x.min, x.br, x.vol, x.blk, 0, 0, 0, 0, []⟩ && (decide (1 ≤ x.num) && (decide (x.num ≤ 65535) && (within x.min 1073741824 && fieldsB x)))))) :
    Calls Try.prog 34 #[.agg (celA x A c)] w fun e w' => e = .returned (.bool (rightB x)) ∧ Below w.heap.size w w' := by
  have HR := Aside0.mk hr
  have HY := Aside0.mk hy
  clear hr hy
  go_enter Try.func34, Try.ntmps34
  go_upto_region 11 with (go_at_call 36; go_must (refine (has_any x.kind _).mono ?_; rintro e w1 ⟨rfl, hb⟩; rw [hV.out, hK.out]; have hlt : w.heap.size < w1.heap.size := Nat.lt_of_lt_of_le (by simp) hb.size; have hx : w1.heap[w.heap.size]? = some (.cells (celA x A c) 30 (0, 0)) := (hb.block _ (by simp)).trans (blk_new w _); obtain ⟨c0, c1, c2, c3, c4, c5, c6, c7, c8, c9⟩ := cel_at hx; have c10 : w1.cell? ⟨w.heap.size, 10, none⟩ = some (.slice A x.body.length c) := blk_cell hx 10; have HB := Aside0.mk ((below_alloc (Below.refl w.heap.size w) (.cells (celA x A c) 30)).trans (hb.mono (by simp))); clear hx hb))
  obtain ⟨W2, hW2⟩ : ∃ W2, W2 = ((w1.alloc (.cells #[.bool true, .bool false, .bool false, .bool false] 84)).alloc (.cells #[.int .i64 x.kind, .int .u64 x.num, .int .i64 x.min, .int .i64 x.br, .int .i64 x.vol, .int .i64 x.blk, .int .u64 0, .int .i64 0, .int .i64 0, .int .i64 0, .slice none 0 0] 30)) := ⟨_, rfl⟩
  rw [← hW2]
  have hb2 : Below w1.heap.size w1 W2 := by rw [hW2]; exact below_alloc (below_alloc (Below.refl _ _) _) _
  have hd : W2.heap[w1.heap.size + 1]? = some (.cells (celA ⟨x.kind, x.num, x.min, x.br, x.vol, x.blk, 0, 0, 0, 0, []⟩ none 0) 30 (0, 0)) := by
    have h1 := blk_new (w1.alloc (.cells #[.bool true, .bool false, .bool false, .bool false] 84)) (.cells #[.int .i64 x.kind, .int .u64 x.num, .int .i64 x.min, .int .i64 x.br, .int .i64 x.vol, .int .i64 x.blk, .int .u64 0, .int .i64 0, .int .i64 0, .int .i64 0, .slice none 0 0] 30)
    rw [show (w1.alloc (.cells #[.bool true, .bool false, .bool false, .bool false] 84)).heap.size = w1.heap.size + 1 by simp] at h1
    rw [hW2]; exact h1
  have d0 : W2.cell? ⟨w1.heap.size + 1, 0, none⟩ = some (.int .i64 x.kind) := blk_cell hd 0
  obtain ⟨_, d1, d2, d3, d4, d5, d6, d7, d8, d9⟩ := cel_at hd
  have d10 : W2.cell? ⟨w1.heap.size + 1, 10, none⟩ = some (.slice none 0 0) := blk_cell hd 10
  replace c0 := pw_cell_below hb2 c0
  replace c1 := pw_cell_below hb2 c1
  replace c2 := pw_cell_below hb2 c2
  replace c3 := pw_cell_below hb2 c3
  replace c4 := pw_cell_below hb2 c4
  replace c5 := pw_cell_below hb2 c5
  replace c6 := pw_cell_below hb2 c6
  replace c7 := pw_cell_below hb2 c7
  replace c8 := pw_cell_below hb2 c8
  replace c9 := pw_cell_below hb2 c9
  replace c10 := pw_cell_below hb2 c10
  replace HB := Aside0.mk (HB.out.trans (hb2.mono HB.out.size))
  simp only at d0 d1 d2 d3 d4 d5 d6 d7 d8 d9
  clear hW2 hb2 hd
  cases hS : sameB x ⟨x.kind, x.num, x.min, x.br, x.vol, x.blk, 0, 0, 0, 0, []⟩ with
  | false =>
    have HE := Aside0.mk (show rightB x = false by rw [hR.out, hS]; simp)
    go_wp2_with (first | (go_at_call 43; go_must (refine (same_any x ⟨x.kind, x.num, x.min, x.br, x.vol, x.blk, 0, 0, 0, 0, []⟩ A none c 0 _ (Kd.C_below HR.out HB.out) (RdB_nil _) HY.out Byt.nil).mono ?_; rintro e w3 ⟨rfl, hb⟩; rw [hS]; replace c0 := pw_cell_below hb c0; replace c1 := pw_cell_below hb c1; replace c2 := pw_cell_below hb c2; replace c3 := pw_cell_below hb c3; replace c4 := pw_cell_below hb c4; replace c5 := pw_cell_below hb c5; replace c6 := pw_cell_below hb c6; replace c7 := pw_cell_below hb c7; replace c8 := pw_cell_below hb c8; replace c9 := pw_cell_below hb c9; replace c10 := pw_cell_below hb c10; replace HB := Aside0.mk (HB.out.trans (hb.mono HB.out.size)); clear hb)) | (go_at_call 44; go_must (refine (within_any x.min 1073741824 _).mono ?_; rintro e w4 ⟨rfl, rfl⟩; rw [hM])) | (go_at_call 45; go_must (refine (fields_any x A c _).mono ?_; rintro e w5 ⟨rfl, hb⟩; replace HB := Aside0.mk (HB.out.trans (hb.mono HB.out.size)); clear hb)))
    go_ret
    exact ⟨retB HE.out.symm, HB.out⟩
  | true =>
    cases hN1 : decide (1 ≤ x.num) with
    | false =>
      have HE := Aside0.mk (show rightB x = false by rw [hR.out, hS, hN1]; simp)
      go_wp2_with (first | (go_at_call 43; go_must (refine (same_any x ⟨x.kind, x.num, x.min, x.br, x.vol, x.blk, 0, 0, 0, 0, []⟩ A none c 0 _ (Kd.C_below HR.out HB.out) (RdB_nil _) HY.out Byt.nil).mono ?_; rintro e w3 ⟨rfl, hb⟩; rw [hS]; replace c0 := pw_cell_below hb c0; replace c1 := pw_cell_below hb c1; replace c2 := pw_cell_below hb c2; replace c3 := pw_cell_below hb c3; replace c4 := pw_cell_below hb c4; replace c5 := pw_cell_below hb c5; replace c6 := pw_cell_below hb c6; replace c7 := pw_cell_below hb c7; replace c8 := pw_cell_below hb c8; replace c9 := pw_cell_below hb c9; replace c10 := pw_cell_below hb c10; replace HB := Aside0.mk (HB.out.trans (hb.mono HB.out.size)); clear hb)) | (go_at_call 44; go_must (refine (within_any x.min 1073741824 _).mono ?_; rintro e w4 ⟨rfl, rfl⟩; rw [hM])) | (go_at_call 45; go_must (refine (fields_any x A c _).mono ?_; rintro e w5 ⟨rfl, hb⟩; replace HB := Aside0.mk (HB.out.trans (hb.mono HB.out.size)); clear hb)))
      go_ret
      exact ⟨retB HE.out.symm, HB.out⟩
    | true =>
      cases hN2 : decide (x.num ≤ 65535) with
      | false =>
        have HE := Aside0.mk (show rightB x = false by rw [hR.out, hS, hN1, hN2]; simp)
        go_wp2_with (first | (go_at_call 43; go_must (refine (same_any x ⟨x.kind, x.num, x.min, x.br, x.vol, x.blk, 0, 0, 0, 0, []⟩ A none c 0 _ (Kd.C_below HR.out HB.out) (RdB_nil _) HY.out Byt.nil).mono ?_; rintro e w3 ⟨rfl, hb⟩; rw [hS]; replace c0 := pw_cell_below hb c0; replace c1 := pw_cell_below hb c1; replace c2 := pw_cell_below hb c2; replace c3 := pw_cell_below hb c3; replace c4 := pw_cell_below hb c4; replace c5 := pw_cell_below hb c5; replace c6 := pw_cell_below hb c6; replace c7 := pw_cell_below hb c7; replace c8 := pw_cell_below hb c8; replace c9 := pw_cell_below hb c9; replace c10 := pw_cell_below hb c10; replace HB := Aside0.mk (HB.out.trans (hb.mono HB.out.size)); clear hb)) | (go_at_call 44; go_must (refine (within_any x.min 1073741824 _).mono ?_; rintro e w4 ⟨rfl, rfl⟩; rw [hM])) | (go_at_call 45; go_must (refine (fields_any x A c _).mono ?_; rintro e w5 ⟨rfl, hb⟩; replace HB := Aside0.mk (HB.out.trans (hb.mono HB.out.size)); clear hb)))
        go_ret
        exact ⟨retB HE.out.symm, HB.out⟩
      | true =>
        cases hM : within x.min 1073741824 with
        | false =>
          have HE := Aside0.mk (show rightB x = false by rw [hR.out, hS, hN1, hN2, hM]; simp)
          go_wp2_with (first | (go_at_call 43; go_must (refine (same_any x ⟨x.kind, x.num, x.min, x.br, x.vol, x.blk, 0, 0, 0, 0, []⟩ A none c 0 _ (Kd.C_below HR.out HB.out) (RdB_nil _) HY.out Byt.nil).mono ?_; rintro e w3 ⟨rfl, hb⟩; rw [hS]; replace c0 := pw_cell_below hb c0; replace c1 := pw_cell_below hb c1; replace c2 := pw_cell_below hb c2; replace c3 := pw_cell_below hb c3; replace c4 := pw_cell_below hb c4; replace c5 := pw_cell_below hb c5; replace c6 := pw_cell_below hb c6; replace c7 := pw_cell_below hb c7; replace c8 := pw_cell_below hb c8; replace c9 := pw_cell_below hb c9; replace c10 := pw_cell_below hb c10; replace HB := Aside0.mk (HB.out.trans (hb.mono HB.out.size)); clear hb)) | (go_at_call 44; go_must (refine (within_any x.min 1073741824 _).mono ?_; rintro e w4 ⟨rfl, rfl⟩; rw [hM])) | (go_at_call 45; go_must (refine (fields_any x A c _).mono ?_; rintro e w5 ⟨rfl, hb⟩; replace HB := Aside0.mk (HB.out.trans (hb.mono HB.out.size)); clear hb)))
          go_ret
          exact ⟨retB HE.out.symm, HB.out⟩
        | true =>
          have HE := Aside0.mk (show rightB x = fieldsB x by rw [hR.out, hS, hN1, hN2, hM]; simp)
          go_wp2_with (first | (go_at_call 43; go_must (refine (same_any x ⟨x.kind, x.num, x.min, x.br, x.vol, x.blk, 0, 0, 0, 0, []⟩ A none c 0 _ (Kd.C_below HR.out HB.out) (RdB_nil _) HY.out Byt.nil).mono ?_; rintro e w3 ⟨rfl, hb⟩; rw [hS]; replace c0 := pw_cell_below hb c0; replace c1 := pw_cell_below hb c1; replace c2 := pw_cell_below hb c2; replace c3 := pw_cell_below hb c3; replace c4 := pw_cell_below hb c4; replace c5 := pw_cell_below hb c5; replace c6 := pw_cell_below hb c6; replace c7 := pw_cell_below hb c7; replace c8 := pw_cell_below hb c8; replace c9 := pw_cell_below hb c9; replace c10 := pw_cell_below hb c10; replace HB := Aside0.mk (HB.out.trans (hb.mono HB.out.size)); clear hb)) | (go_at_call 44; go_must (refine (within_any x.min 1073741824 _).mono ?_; rintro e w4 ⟨rfl, rfl⟩; rw [hM])) | (go_at_call 45; go_must (refine (fields_any x A c _).mono ?_; rintro e w5 ⟨rfl, hb⟩; replace HB := Aside0.mk (HB.out.trans (hb.mono HB.out.size)); clear hb)))
          go_ret
          exact ⟨retB HE.out.symm, HB.out⟩
set_option maxHeartbeats 3200000 in
set_option maxRecDepth 100000 in
theorem right_rm (x : Cel) (A : Option Addr) (c : Nat) (w : World) (hr : RdN w A x.body.length x.body) (hy : Byt x.body) (hV : Aside0 (partsV x.kind = .agg #[.bool false, .bool true, .bool true, .bool false])) (hK : Aside0 (hasKind x.kind = true)) (hR : Aside0 (rightB x = (sameB x ⟨x.kind, x.num, x.min, 0, 0, 0, x.ref, x.fr, x.to, x.un, []⟩ && (decide (1 ≤ x.num) && (decide (x.num ≤ 65535) && (within x.min 1073741824 && fieldsB x)))))) :
    Calls Try.prog 34 #[.agg (celA x A c)] w fun e w' => e = .returned (.bool (rightB x)) ∧ Below w.heap.size w w' := by
  have HR := Aside0.mk hr
  have HY := Aside0.mk hy
  clear hr hy
  go_enter Try.func34, Try.ntmps34
  go_upto_region 8 with (go_at_call 36; go_must (refine (has_any x.kind _).mono ?_; rintro e w1 ⟨rfl, hb⟩; rw [hV.out, hK.out]; have hlt : w.heap.size < w1.heap.size := Nat.lt_of_lt_of_le (by simp) hb.size; have hx : w1.heap[w.heap.size]? = some (.cells (celA x A c) 30 (0, 0)) := (hb.block _ (by simp)).trans (blk_new w _); obtain ⟨c0, c1, c2, c3, c4, c5, c6, c7, c8, c9⟩ := cel_at hx; have c10 : w1.cell? ⟨w.heap.size, 10, none⟩ = some (.slice A x.body.length c) := blk_cell hx 10; have HB := Aside0.mk ((below_alloc (Below.refl w.heap.size w) (.cells (celA x A c) 30)).trans (hb.mono (by simp))); clear hx hb))
  go_wp2_with (fail)
  go_region
  go_upto_region 11 with (fail)
  obtain ⟨W2, hW2⟩ : ∃ W2, W2 = ((w1.alloc (.cells #[.bool false, .bool true, .bool true, .bool false] 84)).alloc (.cells #[.int .i64 x.kind, .int .u64 x.num, .int .i64 x.min, .int .i64 0, .int .i64 0, .int .i64 0, .int .u64 x.ref, .int .i64 x.fr, .int .i64 x.to, .int .i64 x.un, .slice none 0 0] 30)).drew := ⟨_, rfl⟩
  rw [← hW2]
  have hb2 : Below w1.heap.size w1 W2 := by rw [hW2]; exact below_drew (below_alloc (below_alloc (Below.refl _ _) _) _)
  have hd : W2.heap[w1.heap.size + 1]? = some (.cells (celA ⟨x.kind, x.num, x.min, 0, 0, 0, x.ref, x.fr, x.to, x.un, []⟩ none 0) 30 (0, 0)) := by
    have h1 := blk_new (w1.alloc (.cells #[.bool false, .bool true, .bool true, .bool false] 84)) (.cells #[.int .i64 x.kind, .int .u64 x.num, .int .i64 x.min, .int .i64 0, .int .i64 0, .int .i64 0, .int .u64 x.ref, .int .i64 x.fr, .int .i64 x.to, .int .i64 x.un, .slice none 0 0] 30)
    rw [show (w1.alloc (.cells #[.bool false, .bool true, .bool true, .bool false] 84)).heap.size = w1.heap.size + 1 by simp] at h1
    rw [hW2]; exact h1
  have d0 : W2.cell? ⟨w1.heap.size + 1, 0, none⟩ = some (.int .i64 x.kind) := blk_cell hd 0
  obtain ⟨_, d1, d2, d3, d4, d5, d6, d7, d8, d9⟩ := cel_at hd
  have d10 : W2.cell? ⟨w1.heap.size + 1, 10, none⟩ = some (.slice none 0 0) := blk_cell hd 10
  replace c0 := pw_cell_below hb2 c0
  replace c1 := pw_cell_below hb2 c1
  replace c2 := pw_cell_below hb2 c2
  replace c3 := pw_cell_below hb2 c3
  replace c4 := pw_cell_below hb2 c4
  replace c5 := pw_cell_below hb2 c5
  replace c6 := pw_cell_below hb2 c6
  replace c7 := pw_cell_below hb2 c7
  replace c8 := pw_cell_below hb2 c8
  replace c9 := pw_cell_below hb2 c9
  replace c10 := pw_cell_below hb2 c10
  replace HB := Aside0.mk (HB.out.trans (hb2.mono HB.out.size))
  simp only at d0 d1 d2 d3 d4 d5 d6 d7 d8 d9
  clear hW2 hb2 hd
  cases hS : sameB x ⟨x.kind, x.num, x.min, 0, 0, 0, x.ref, x.fr, x.to, x.un, []⟩ with
  | false =>
    have HE := Aside0.mk (show rightB x = false by rw [hR.out, hS]; simp)
    go_wp2_with (first | (go_at_call 43; go_must (refine (same_any x ⟨x.kind, x.num, x.min, 0, 0, 0, x.ref, x.fr, x.to, x.un, []⟩ A none c 0 _ (Kd.C_below HR.out HB.out) (RdB_nil _) HY.out Byt.nil).mono ?_; rintro e w3 ⟨rfl, hb⟩; rw [hS]; replace c0 := pw_cell_below hb c0; replace c1 := pw_cell_below hb c1; replace c2 := pw_cell_below hb c2; replace c3 := pw_cell_below hb c3; replace c4 := pw_cell_below hb c4; replace c5 := pw_cell_below hb c5; replace c6 := pw_cell_below hb c6; replace c7 := pw_cell_below hb c7; replace c8 := pw_cell_below hb c8; replace c9 := pw_cell_below hb c9; replace c10 := pw_cell_below hb c10; replace HB := Aside0.mk (HB.out.trans (hb.mono HB.out.size)); clear hb)) | (go_at_call 44; go_must (refine (within_any x.min 1073741824 _).mono ?_; rintro e w4 ⟨rfl, rfl⟩; rw [hM])) | (go_at_call 45; go_must (refine (fields_any x A c _).mono ?_; rintro e w5 ⟨rfl, hb⟩; replace HB := Aside0.mk (HB.out.trans (hb.mono HB.out.size)); clear hb)))
    go_ret
    exact ⟨retB HE.out.symm, HB.out⟩
  | true =>
    cases hN1 : decide (1 ≤ x.num) with
    | false =>
      have HE := Aside0.mk (show rightB x = false by rw [hR.out, hS, hN1]; simp)
      go_wp2_with (first | (go_at_call 43; go_must (refine (same_any x ⟨x.kind, x.num, x.min, 0, 0, 0, x.ref, x.fr, x.to, x.un, []⟩ A none c 0 _ (Kd.C_below HR.out HB.out) (RdB_nil _) HY.out Byt.nil).mono ?_; rintro e w3 ⟨rfl, hb⟩; rw [hS]; replace c0 := pw_cell_below hb c0; replace c1 := pw_cell_below hb c1; replace c2 := pw_cell_below hb c2; replace c3 := pw_cell_below hb c3; replace c4 := pw_cell_below hb c4; replace c5 := pw_cell_below hb c5; replace c6 := pw_cell_below hb c6; replace c7 := pw_cell_below hb c7; replace c8 := pw_cell_below hb c8; replace c9 := pw_cell_below hb c9; replace c10 := pw_cell_below hb c10; replace HB := Aside0.mk (HB.out.trans (hb.mono HB.out.size)); clear hb)) | (go_at_call 44; go_must (refine (within_any x.min 1073741824 _).mono ?_; rintro e w4 ⟨rfl, rfl⟩; rw [hM])) | (go_at_call 45; go_must (refine (fields_any x A c _).mono ?_; rintro e w5 ⟨rfl, hb⟩; replace HB := Aside0.mk (HB.out.trans (hb.mono HB.out.size)); clear hb)))
      go_ret
      exact ⟨retB HE.out.symm, HB.out⟩
    | true =>
      cases hN2 : decide (x.num ≤ 65535) with
      | false =>
        have HE := Aside0.mk (show rightB x = false by rw [hR.out, hS, hN1, hN2]; simp)
        go_wp2_with (first | (go_at_call 43; go_must (refine (same_any x ⟨x.kind, x.num, x.min, 0, 0, 0, x.ref, x.fr, x.to, x.un, []⟩ A none c 0 _ (Kd.C_below HR.out HB.out) (RdB_nil _) HY.out Byt.nil).mono ?_; rintro e w3 ⟨rfl, hb⟩; rw [hS]; replace c0 := pw_cell_below hb c0; replace c1 := pw_cell_below hb c1; replace c2 := pw_cell_below hb c2; replace c3 := pw_cell_below hb c3; replace c4 := pw_cell_below hb c4; replace c5 := pw_cell_below hb c5; replace c6 := pw_cell_below hb c6; replace c7 := pw_cell_below hb c7; replace c8 := pw_cell_below hb c8; replace c9 := pw_cell_below hb c9; replace c10 := pw_cell_below hb c10; replace HB := Aside0.mk (HB.out.trans (hb.mono HB.out.size)); clear hb)) | (go_at_call 44; go_must (refine (within_any x.min 1073741824 _).mono ?_; rintro e w4 ⟨rfl, rfl⟩; rw [hM])) | (go_at_call 45; go_must (refine (fields_any x A c _).mono ?_; rintro e w5 ⟨rfl, hb⟩; replace HB := Aside0.mk (HB.out.trans (hb.mono HB.out.size)); clear hb)))
        go_ret
        exact ⟨retB HE.out.symm, HB.out⟩
      | true =>
        cases hM : within x.min 1073741824 with
        | false =>
          have HE := Aside0.mk (show rightB x = false by rw [hR.out, hS, hN1, hN2, hM]; simp)
          go_wp2_with (first | (go_at_call 43; go_must (refine (same_any x ⟨x.kind, x.num, x.min, 0, 0, 0, x.ref, x.fr, x.to, x.un, []⟩ A none c 0 _ (Kd.C_below HR.out HB.out) (RdB_nil _) HY.out Byt.nil).mono ?_; rintro e w3 ⟨rfl, hb⟩; rw [hS]; replace c0 := pw_cell_below hb c0; replace c1 := pw_cell_below hb c1; replace c2 := pw_cell_below hb c2; replace c3 := pw_cell_below hb c3; replace c4 := pw_cell_below hb c4; replace c5 := pw_cell_below hb c5; replace c6 := pw_cell_below hb c6; replace c7 := pw_cell_below hb c7; replace c8 := pw_cell_below hb c8; replace c9 := pw_cell_below hb c9; replace c10 := pw_cell_below hb c10; replace HB := Aside0.mk (HB.out.trans (hb.mono HB.out.size)); clear hb)) | (go_at_call 44; go_must (refine (within_any x.min 1073741824 _).mono ?_; rintro e w4 ⟨rfl, rfl⟩; rw [hM])) | (go_at_call 45; go_must (refine (fields_any x A c _).mono ?_; rintro e w5 ⟨rfl, hb⟩; replace HB := Aside0.mk (HB.out.trans (hb.mono HB.out.size)); clear hb)))
          go_ret
          exact ⟨retB HE.out.symm, HB.out⟩
        | true =>
          have HE := Aside0.mk (show rightB x = fieldsB x by rw [hR.out, hS, hN1, hN2, hM]; simp)
          go_wp2_with (first | (go_at_call 43; go_must (refine (same_any x ⟨x.kind, x.num, x.min, 0, 0, 0, x.ref, x.fr, x.to, x.un, []⟩ A none c 0 _ (Kd.C_below HR.out HB.out) (RdB_nil _) HY.out Byt.nil).mono ?_; rintro e w3 ⟨rfl, hb⟩; rw [hS]; replace c0 := pw_cell_below hb c0; replace c1 := pw_cell_below hb c1; replace c2 := pw_cell_below hb c2; replace c3 := pw_cell_below hb c3; replace c4 := pw_cell_below hb c4; replace c5 := pw_cell_below hb c5; replace c6 := pw_cell_below hb c6; replace c7 := pw_cell_below hb c7; replace c8 := pw_cell_below hb c8; replace c9 := pw_cell_below hb c9; replace c10 := pw_cell_below hb c10; replace HB := Aside0.mk (HB.out.trans (hb.mono HB.out.size)); clear hb)) | (go_at_call 44; go_must (refine (within_any x.min 1073741824 _).mono ?_; rintro e w4 ⟨rfl, rfl⟩; rw [hM])) | (go_at_call 45; go_must (refine (fields_any x A c _).mono ?_; rintro e w5 ⟨rfl, hb⟩; replace HB := Aside0.mk (HB.out.trans (hb.mono HB.out.size)); clear hb)))
          go_ret
          exact ⟨retB HE.out.symm, HB.out⟩
set_option maxHeartbeats 3200000 in
set_option maxRecDepth 100000 in
theorem right_r (x : Cel) (A : Option Addr) (c : Nat) (w : World) (hr : RdN w A x.body.length x.body) (hy : Byt x.body) (hV : Aside0 (partsV x.kind = .agg #[.bool false, .bool true, .bool false, .bool false])) (hK : Aside0 (hasKind x.kind = true)) (hR : Aside0 (rightB x = (sameB x ⟨x.kind, x.num, x.min, 0, 0, 0, x.ref, 0, 0, 0, []⟩ && (decide (1 ≤ x.num) && (decide (x.num ≤ 65535) && (within x.min 1073741824 && fieldsB x)))))) :
    Calls Try.prog 34 #[.agg (celA x A c)] w fun e w' => e = .returned (.bool (rightB x)) ∧ Below w.heap.size w w' := by
  have HR := Aside0.mk hr
  have HY := Aside0.mk hy
  clear hr hy
  go_enter Try.func34, Try.ntmps34
  go_upto_region 11 with (go_at_call 36; go_must (refine (has_any x.kind _).mono ?_; rintro e w1 ⟨rfl, hb⟩; rw [hV.out, hK.out]; have hlt : w.heap.size < w1.heap.size := Nat.lt_of_lt_of_le (by simp) hb.size; have hx : w1.heap[w.heap.size]? = some (.cells (celA x A c) 30 (0, 0)) := (hb.block _ (by simp)).trans (blk_new w _); obtain ⟨c0, c1, c2, c3, c4, c5, c6, c7, c8, c9⟩ := cel_at hx; have c10 : w1.cell? ⟨w.heap.size, 10, none⟩ = some (.slice A x.body.length c) := blk_cell hx 10; have HB := Aside0.mk ((below_alloc (Below.refl w.heap.size w) (.cells (celA x A c) 30)).trans (hb.mono (by simp))); clear hx hb))
  obtain ⟨W2, hW2⟩ : ∃ W2, W2 = ((w1.alloc (.cells #[.bool false, .bool true, .bool false, .bool false] 84)).alloc (.cells #[.int .i64 x.kind, .int .u64 x.num, .int .i64 x.min, .int .i64 0, .int .i64 0, .int .i64 0, .int .u64 x.ref, .int .i64 0, .int .i64 0, .int .i64 0, .slice none 0 0] 30)) := ⟨_, rfl⟩
  rw [← hW2]
  have hb2 : Below w1.heap.size w1 W2 := by rw [hW2]; exact below_alloc (below_alloc (Below.refl _ _) _) _
  have hd : W2.heap[w1.heap.size + 1]? = some (.cells (celA ⟨x.kind, x.num, x.min, 0, 0, 0, x.ref, 0, 0, 0, []⟩ none 0) 30 (0, 0)) := by
    have h1 := blk_new (w1.alloc (.cells #[.bool false, .bool true, .bool false, .bool false] 84)) (.cells #[.int .i64 x.kind, .int .u64 x.num, .int .i64 x.min, .int .i64 0, .int .i64 0, .int .i64 0, .int .u64 x.ref, .int .i64 0, .int .i64 0, .int .i64 0, .slice none 0 0] 30)
    rw [show (w1.alloc (.cells #[.bool false, .bool true, .bool false, .bool false] 84)).heap.size = w1.heap.size + 1 by simp] at h1
    rw [hW2]; exact h1
  have d0 : W2.cell? ⟨w1.heap.size + 1, 0, none⟩ = some (.int .i64 x.kind) := blk_cell hd 0
  obtain ⟨_, d1, d2, d3, d4, d5, d6, d7, d8, d9⟩ := cel_at hd
  have d10 : W2.cell? ⟨w1.heap.size + 1, 10, none⟩ = some (.slice none 0 0) := blk_cell hd 10
  replace c0 := pw_cell_below hb2 c0
  replace c1 := pw_cell_below hb2 c1
  replace c2 := pw_cell_below hb2 c2
  replace c3 := pw_cell_below hb2 c3
  replace c4 := pw_cell_below hb2 c4
  replace c5 := pw_cell_below hb2 c5
  replace c6 := pw_cell_below hb2 c6
  replace c7 := pw_cell_below hb2 c7
  replace c8 := pw_cell_below hb2 c8
  replace c9 := pw_cell_below hb2 c9
  replace c10 := pw_cell_below hb2 c10
  replace HB := Aside0.mk (HB.out.trans (hb2.mono HB.out.size))
  simp only at d0 d1 d2 d3 d4 d5 d6 d7 d8 d9
  clear hW2 hb2 hd
  cases hS : sameB x ⟨x.kind, x.num, x.min, 0, 0, 0, x.ref, 0, 0, 0, []⟩ with
  | false =>
    have HE := Aside0.mk (show rightB x = false by rw [hR.out, hS]; simp)
    go_wp2_with (first | (go_at_call 43; go_must (refine (same_any x ⟨x.kind, x.num, x.min, 0, 0, 0, x.ref, 0, 0, 0, []⟩ A none c 0 _ (Kd.C_below HR.out HB.out) (RdB_nil _) HY.out Byt.nil).mono ?_; rintro e w3 ⟨rfl, hb⟩; rw [hS]; replace c0 := pw_cell_below hb c0; replace c1 := pw_cell_below hb c1; replace c2 := pw_cell_below hb c2; replace c3 := pw_cell_below hb c3; replace c4 := pw_cell_below hb c4; replace c5 := pw_cell_below hb c5; replace c6 := pw_cell_below hb c6; replace c7 := pw_cell_below hb c7; replace c8 := pw_cell_below hb c8; replace c9 := pw_cell_below hb c9; replace c10 := pw_cell_below hb c10; replace HB := Aside0.mk (HB.out.trans (hb.mono HB.out.size)); clear hb)) | (go_at_call 44; go_must (refine (within_any x.min 1073741824 _).mono ?_; rintro e w4 ⟨rfl, rfl⟩; rw [hM])) | (go_at_call 45; go_must (refine (fields_any x A c _).mono ?_; rintro e w5 ⟨rfl, hb⟩; replace HB := Aside0.mk (HB.out.trans (hb.mono HB.out.size)); clear hb)))
    go_ret
    exact ⟨retB HE.out.symm, HB.out⟩
  | true =>
    cases hN1 : decide (1 ≤ x.num) with
    | false =>
      have HE := Aside0.mk (show rightB x = false by rw [hR.out, hS, hN1]; simp)
      go_wp2_with (first | (go_at_call 43; go_must (refine (same_any x ⟨x.kind, x.num, x.min, 0, 0, 0, x.ref, 0, 0, 0, []⟩ A none c 0 _ (Kd.C_below HR.out HB.out) (RdB_nil _) HY.out Byt.nil).mono ?_; rintro e w3 ⟨rfl, hb⟩; rw [hS]; replace c0 := pw_cell_below hb c0; replace c1 := pw_cell_below hb c1; replace c2 := pw_cell_below hb c2; replace c3 := pw_cell_below hb c3; replace c4 := pw_cell_below hb c4; replace c5 := pw_cell_below hb c5; replace c6 := pw_cell_below hb c6; replace c7 := pw_cell_below hb c7; replace c8 := pw_cell_below hb c8; replace c9 := pw_cell_below hb c9; replace c10 := pw_cell_below hb c10; replace HB := Aside0.mk (HB.out.trans (hb.mono HB.out.size)); clear hb)) | (go_at_call 44; go_must (refine (within_any x.min 1073741824 _).mono ?_; rintro e w4 ⟨rfl, rfl⟩; rw [hM])) | (go_at_call 45; go_must (refine (fields_any x A c _).mono ?_; rintro e w5 ⟨rfl, hb⟩; replace HB := Aside0.mk (HB.out.trans (hb.mono HB.out.size)); clear hb)))
      go_ret
      exact ⟨retB HE.out.symm, HB.out⟩
    | true =>
      cases hN2 : decide (x.num ≤ 65535) with
      | false =>
        have HE := Aside0.mk (show rightB x = false by rw [hR.out, hS, hN1, hN2]; simp)
        go_wp2_with (first | (go_at_call 43; go_must (refine (same_any x ⟨x.kind, x.num, x.min, 0, 0, 0, x.ref, 0, 0, 0, []⟩ A none c 0 _ (Kd.C_below HR.out HB.out) (RdB_nil _) HY.out Byt.nil).mono ?_; rintro e w3 ⟨rfl, hb⟩; rw [hS]; replace c0 := pw_cell_below hb c0; replace c1 := pw_cell_below hb c1; replace c2 := pw_cell_below hb c2; replace c3 := pw_cell_below hb c3; replace c4 := pw_cell_below hb c4; replace c5 := pw_cell_below hb c5; replace c6 := pw_cell_below hb c6; replace c7 := pw_cell_below hb c7; replace c8 := pw_cell_below hb c8; replace c9 := pw_cell_below hb c9; replace c10 := pw_cell_below hb c10; replace HB := Aside0.mk (HB.out.trans (hb.mono HB.out.size)); clear hb)) | (go_at_call 44; go_must (refine (within_any x.min 1073741824 _).mono ?_; rintro e w4 ⟨rfl, rfl⟩; rw [hM])) | (go_at_call 45; go_must (refine (fields_any x A c _).mono ?_; rintro e w5 ⟨rfl, hb⟩; replace HB := Aside0.mk (HB.out.trans (hb.mono HB.out.size)); clear hb)))
        go_ret
        exact ⟨retB HE.out.symm, HB.out⟩
      | true =>
        cases hM : within x.min 1073741824 with
        | false =>
          have HE := Aside0.mk (show rightB x = false by rw [hR.out, hS, hN1, hN2, hM]; simp)
          go_wp2_with (first | (go_at_call 43; go_must (refine (same_any x ⟨x.kind, x.num, x.min, 0, 0, 0, x.ref, 0, 0, 0, []⟩ A none c 0 _ (Kd.C_below HR.out HB.out) (RdB_nil _) HY.out Byt.nil).mono ?_; rintro e w3 ⟨rfl, hb⟩; rw [hS]; replace c0 := pw_cell_below hb c0; replace c1 := pw_cell_below hb c1; replace c2 := pw_cell_below hb c2; replace c3 := pw_cell_below hb c3; replace c4 := pw_cell_below hb c4; replace c5 := pw_cell_below hb c5; replace c6 := pw_cell_below hb c6; replace c7 := pw_cell_below hb c7; replace c8 := pw_cell_below hb c8; replace c9 := pw_cell_below hb c9; replace c10 := pw_cell_below hb c10; replace HB := Aside0.mk (HB.out.trans (hb.mono HB.out.size)); clear hb)) | (go_at_call 44; go_must (refine (within_any x.min 1073741824 _).mono ?_; rintro e w4 ⟨rfl, rfl⟩; rw [hM])) | (go_at_call 45; go_must (refine (fields_any x A c _).mono ?_; rintro e w5 ⟨rfl, hb⟩; replace HB := Aside0.mk (HB.out.trans (hb.mono HB.out.size)); clear hb)))
          go_ret
          exact ⟨retB HE.out.symm, HB.out⟩
        | true =>
          have HE := Aside0.mk (show rightB x = fieldsB x by rw [hR.out, hS, hN1, hN2, hM]; simp)
          go_wp2_with (first | (go_at_call 43; go_must (refine (same_any x ⟨x.kind, x.num, x.min, 0, 0, 0, x.ref, 0, 0, 0, []⟩ A none c 0 _ (Kd.C_below HR.out HB.out) (RdB_nil _) HY.out Byt.nil).mono ?_; rintro e w3 ⟨rfl, hb⟩; rw [hS]; replace c0 := pw_cell_below hb c0; replace c1 := pw_cell_below hb c1; replace c2 := pw_cell_below hb c2; replace c3 := pw_cell_below hb c3; replace c4 := pw_cell_below hb c4; replace c5 := pw_cell_below hb c5; replace c6 := pw_cell_below hb c6; replace c7 := pw_cell_below hb c7; replace c8 := pw_cell_below hb c8; replace c9 := pw_cell_below hb c9; replace c10 := pw_cell_below hb c10; replace HB := Aside0.mk (HB.out.trans (hb.mono HB.out.size)); clear hb)) | (go_at_call 44; go_must (refine (within_any x.min 1073741824 _).mono ?_; rintro e w4 ⟨rfl, rfl⟩; rw [hM])) | (go_at_call 45; go_must (refine (fields_any x A c _).mono ?_; rintro e w5 ⟨rfl, hb⟩; replace HB := Aside0.mk (HB.out.trans (hb.mono HB.out.size)); clear hb)))
          go_ret
          exact ⟨retB HE.out.symm, HB.out⟩
set_option maxHeartbeats 3200000 in
set_option maxRecDepth 100000 in
theorem right_n (x : Cel) (A : Option Addr) (c : Nat) (w : World) (hr : RdN w A x.body.length x.body) (hy : Byt x.body) (hV : Aside0 (partsV x.kind = .agg #[.bool false, .bool false, .bool false, .bool false])) (hK : Aside0 (hasKind x.kind = true)) (hR : Aside0 (rightB x = (sameB x ⟨x.kind, x.num, x.min, 0, 0, 0, 0, 0, 0, 0, []⟩ && (decide (1 ≤ x.num) && (decide (x.num ≤ 65535) && (within x.min 1073741824 && fieldsB x)))))) :
    Calls Try.prog 34 #[.agg (celA x A c)] w fun e w' => e = .returned (.bool (rightB x)) ∧ Below w.heap.size w w' := by
  have HR := Aside0.mk hr
  have HY := Aside0.mk hy
  clear hr hy
  go_enter Try.func34, Try.ntmps34
  go_upto_region 11 with (go_at_call 36; go_must (refine (has_any x.kind _).mono ?_; rintro e w1 ⟨rfl, hb⟩; rw [hV.out, hK.out]; have hlt : w.heap.size < w1.heap.size := Nat.lt_of_lt_of_le (by simp) hb.size; have hx : w1.heap[w.heap.size]? = some (.cells (celA x A c) 30 (0, 0)) := (hb.block _ (by simp)).trans (blk_new w _); obtain ⟨c0, c1, c2, c3, c4, c5, c6, c7, c8, c9⟩ := cel_at hx; have c10 : w1.cell? ⟨w.heap.size, 10, none⟩ = some (.slice A x.body.length c) := blk_cell hx 10; have HB := Aside0.mk ((below_alloc (Below.refl w.heap.size w) (.cells (celA x A c) 30)).trans (hb.mono (by simp))); clear hx hb))
  obtain ⟨W2, hW2⟩ : ∃ W2, W2 = ((w1.alloc (.cells #[.bool false, .bool false, .bool false, .bool false] 84)).alloc (.cells #[.int .i64 x.kind, .int .u64 x.num, .int .i64 x.min, .int .i64 0, .int .i64 0, .int .i64 0, .int .u64 0, .int .i64 0, .int .i64 0, .int .i64 0, .slice none 0 0] 30)) := ⟨_, rfl⟩
  rw [← hW2]
  have hb2 : Below w1.heap.size w1 W2 := by rw [hW2]; exact below_alloc (below_alloc (Below.refl _ _) _) _
  have hd : W2.heap[w1.heap.size + 1]? = some (.cells (celA ⟨x.kind, x.num, x.min, 0, 0, 0, 0, 0, 0, 0, []⟩ none 0) 30 (0, 0)) := by
    have h1 := blk_new (w1.alloc (.cells #[.bool false, .bool false, .bool false, .bool false] 84)) (.cells #[.int .i64 x.kind, .int .u64 x.num, .int .i64 x.min, .int .i64 0, .int .i64 0, .int .i64 0, .int .u64 0, .int .i64 0, .int .i64 0, .int .i64 0, .slice none 0 0] 30)
    rw [show (w1.alloc (.cells #[.bool false, .bool false, .bool false, .bool false] 84)).heap.size = w1.heap.size + 1 by simp] at h1
    rw [hW2]; exact h1
  have d0 : W2.cell? ⟨w1.heap.size + 1, 0, none⟩ = some (.int .i64 x.kind) := blk_cell hd 0
  obtain ⟨_, d1, d2, d3, d4, d5, d6, d7, d8, d9⟩ := cel_at hd
  have d10 : W2.cell? ⟨w1.heap.size + 1, 10, none⟩ = some (.slice none 0 0) := blk_cell hd 10
  replace c0 := pw_cell_below hb2 c0
  replace c1 := pw_cell_below hb2 c1
  replace c2 := pw_cell_below hb2 c2
  replace c3 := pw_cell_below hb2 c3
  replace c4 := pw_cell_below hb2 c4
  replace c5 := pw_cell_below hb2 c5
  replace c6 := pw_cell_below hb2 c6
  replace c7 := pw_cell_below hb2 c7
  replace c8 := pw_cell_below hb2 c8
  replace c9 := pw_cell_below hb2 c9
  replace c10 := pw_cell_below hb2 c10
  replace HB := Aside0.mk (HB.out.trans (hb2.mono HB.out.size))
  simp only at d0 d1 d2 d3 d4 d5 d6 d7 d8 d9
  clear hW2 hb2 hd
  cases hS : sameB x ⟨x.kind, x.num, x.min, 0, 0, 0, 0, 0, 0, 0, []⟩ with
  | false =>
    have HE := Aside0.mk (show rightB x = false by rw [hR.out, hS]; simp)
    go_wp2_with (first | (go_at_call 43; go_must (refine (same_any x ⟨x.kind, x.num, x.min, 0, 0, 0, 0, 0, 0, 0, []⟩ A none c 0 _ (Kd.C_below HR.out HB.out) (RdB_nil _) HY.out Byt.nil).mono ?_; rintro e w3 ⟨rfl, hb⟩; rw [hS]; replace c0 := pw_cell_below hb c0; replace c1 := pw_cell_below hb c1; replace c2 := pw_cell_below hb c2; replace c3 := pw_cell_below hb c3; replace c4 := pw_cell_below hb c4; replace c5 := pw_cell_below hb c5; replace c6 := pw_cell_below hb c6; replace c7 := pw_cell_below hb c7; replace c8 := pw_cell_below hb c8; replace c9 := pw_cell_below hb c9; replace c10 := pw_cell_below hb c10; replace HB := Aside0.mk (HB.out.trans (hb.mono HB.out.size)); clear hb)) | (go_at_call 44; go_must (refine (within_any x.min 1073741824 _).mono ?_; rintro e w4 ⟨rfl, rfl⟩; rw [hM])) | (go_at_call 45; go_must (refine (fields_any x A c _).mono ?_; rintro e w5 ⟨rfl, hb⟩; replace HB := Aside0.mk (HB.out.trans (hb.mono HB.out.size)); clear hb)))
    go_ret
    exact ⟨retB HE.out.symm, HB.out⟩
  | true =>
    cases hN1 : decide (1 ≤ x.num) with
    | false =>
      have HE := Aside0.mk (show rightB x = false by rw [hR.out, hS, hN1]; simp)
      go_wp2_with (first | (go_at_call 43; go_must (refine (same_any x ⟨x.kind, x.num, x.min, 0, 0, 0, 0, 0, 0, 0, []⟩ A none c 0 _ (Kd.C_below HR.out HB.out) (RdB_nil _) HY.out Byt.nil).mono ?_; rintro e w3 ⟨rfl, hb⟩; rw [hS]; replace c0 := pw_cell_below hb c0; replace c1 := pw_cell_below hb c1; replace c2 := pw_cell_below hb c2; replace c3 := pw_cell_below hb c3; replace c4 := pw_cell_below hb c4; replace c5 := pw_cell_below hb c5; replace c6 := pw_cell_below hb c6; replace c7 := pw_cell_below hb c7; replace c8 := pw_cell_below hb c8; replace c9 := pw_cell_below hb c9; replace c10 := pw_cell_below hb c10; replace HB := Aside0.mk (HB.out.trans (hb.mono HB.out.size)); clear hb)) | (go_at_call 44; go_must (refine (within_any x.min 1073741824 _).mono ?_; rintro e w4 ⟨rfl, rfl⟩; rw [hM])) | (go_at_call 45; go_must (refine (fields_any x A c _).mono ?_; rintro e w5 ⟨rfl, hb⟩; replace HB := Aside0.mk (HB.out.trans (hb.mono HB.out.size)); clear hb)))
      go_ret
      exact ⟨retB HE.out.symm, HB.out⟩
    | true =>
      cases hN2 : decide (x.num ≤ 65535) with
      | false =>
        have HE := Aside0.mk (show rightB x = false by rw [hR.out, hS, hN1, hN2]; simp)
        go_wp2_with (first | (go_at_call 43; go_must (refine (same_any x ⟨x.kind, x.num, x.min, 0, 0, 0, 0, 0, 0, 0, []⟩ A none c 0 _ (Kd.C_below HR.out HB.out) (RdB_nil _) HY.out Byt.nil).mono ?_; rintro e w3 ⟨rfl, hb⟩; rw [hS]; replace c0 := pw_cell_below hb c0; replace c1 := pw_cell_below hb c1; replace c2 := pw_cell_below hb c2; replace c3 := pw_cell_below hb c3; replace c4 := pw_cell_below hb c4; replace c5 := pw_cell_below hb c5; replace c6 := pw_cell_below hb c6; replace c7 := pw_cell_below hb c7; replace c8 := pw_cell_below hb c8; replace c9 := pw_cell_below hb c9; replace c10 := pw_cell_below hb c10; replace HB := Aside0.mk (HB.out.trans (hb.mono HB.out.size)); clear hb)) | (go_at_call 44; go_must (refine (within_any x.min 1073741824 _).mono ?_; rintro e w4 ⟨rfl, rfl⟩; rw [hM])) | (go_at_call 45; go_must (refine (fields_any x A c _).mono ?_; rintro e w5 ⟨rfl, hb⟩; replace HB := Aside0.mk (HB.out.trans (hb.mono HB.out.size)); clear hb)))
        go_ret
        exact ⟨retB HE.out.symm, HB.out⟩
      | true =>
        cases hM : within x.min 1073741824 with
        | false =>
          have HE := Aside0.mk (show rightB x = false by rw [hR.out, hS, hN1, hN2, hM]; simp)
          go_wp2_with (first | (go_at_call 43; go_must (refine (same_any x ⟨x.kind, x.num, x.min, 0, 0, 0, 0, 0, 0, 0, []⟩ A none c 0 _ (Kd.C_below HR.out HB.out) (RdB_nil _) HY.out Byt.nil).mono ?_; rintro e w3 ⟨rfl, hb⟩; rw [hS]; replace c0 := pw_cell_below hb c0; replace c1 := pw_cell_below hb c1; replace c2 := pw_cell_below hb c2; replace c3 := pw_cell_below hb c3; replace c4 := pw_cell_below hb c4; replace c5 := pw_cell_below hb c5; replace c6 := pw_cell_below hb c6; replace c7 := pw_cell_below hb c7; replace c8 := pw_cell_below hb c8; replace c9 := pw_cell_below hb c9; replace c10 := pw_cell_below hb c10; replace HB := Aside0.mk (HB.out.trans (hb.mono HB.out.size)); clear hb)) | (go_at_call 44; go_must (refine (within_any x.min 1073741824 _).mono ?_; rintro e w4 ⟨rfl, rfl⟩; rw [hM])) | (go_at_call 45; go_must (refine (fields_any x A c _).mono ?_; rintro e w5 ⟨rfl, hb⟩; replace HB := Aside0.mk (HB.out.trans (hb.mono HB.out.size)); clear hb)))
          go_ret
          exact ⟨retB HE.out.symm, HB.out⟩
        | true =>
          have HE := Aside0.mk (show rightB x = fieldsB x by rw [hR.out, hS, hN1, hN2, hM]; simp)
          go_wp2_with (first | (go_at_call 43; go_must (refine (same_any x ⟨x.kind, x.num, x.min, 0, 0, 0, 0, 0, 0, 0, []⟩ A none c 0 _ (Kd.C_below HR.out HB.out) (RdB_nil _) HY.out Byt.nil).mono ?_; rintro e w3 ⟨rfl, hb⟩; rw [hS]; replace c0 := pw_cell_below hb c0; replace c1 := pw_cell_below hb c1; replace c2 := pw_cell_below hb c2; replace c3 := pw_cell_below hb c3; replace c4 := pw_cell_below hb c4; replace c5 := pw_cell_below hb c5; replace c6 := pw_cell_below hb c6; replace c7 := pw_cell_below hb c7; replace c8 := pw_cell_below hb c8; replace c9 := pw_cell_below hb c9; replace c10 := pw_cell_below hb c10; replace HB := Aside0.mk (HB.out.trans (hb.mono HB.out.size)); clear hb)) | (go_at_call 44; go_must (refine (within_any x.min 1073741824 _).mono ?_; rintro e w4 ⟨rfl, rfl⟩; rw [hM])) | (go_at_call 45; go_must (refine (fields_any x A c _).mono ?_; rintro e w5 ⟨rfl, hb⟩; replace HB := Aside0.mk (HB.out.trans (hb.mono HB.out.size)); clear hb)))
          go_ret
          exact ⟨retB HE.out.symm, HB.out⟩
theorem right_none (x : Cel) (A : Option Addr) (c : Nat) (w : World) (hr : RdN w A x.body.length x.body) (hy : Byt x.body) (hV : Aside0 (partsV x.kind = .agg #[.bool false, .bool false, .bool false, .bool false])) (hK : Aside0 (hasKind x.kind = false)) (hR : Aside0 (rightB x = false)) :
    Calls Try.prog 34 #[.agg (celA x A c)] w fun e w' => e = .returned (.bool (rightB x)) ∧ Below w.heap.size w w' := by
  go_enter Try.func34, Try.ntmps34
  go_wp2_with (go_at_call 36; go_must (refine (has_any x.kind _).mono ?_; rintro e w1 ⟨rfl, hb⟩; rw [hV.out, hK.out]; have hlt : w.heap.size < w1.heap.size := Nat.lt_of_lt_of_le (by simp) hb.size; have hx : w1.heap[w.heap.size]? = some (.cells (celA x A c) 30 (0, 0)) := (hb.block _ (by simp)).trans (blk_new w _); obtain ⟨c0, c1, c2, c3, c4, c5, c6, c7, c8, c9⟩ := cel_at hx; have c10 : w1.cell? ⟨w.heap.size, 10, none⟩ = some (.slice A x.body.length c) := blk_cell hx 10; have HB := Aside0.mk ((below_alloc (Below.refl w.heap.size w) (.cells (celA x A c) 30)).trans (hb.mono (by simp))); clear hx hb))
  go_ret
  exact ⟨retB hR.out.symm, (HB.out.alloc HB.out.size _).alloc (by simp; have := HB.out.size; omega) _⟩
/-- The kinds. -/
theorem kind_six {k : Int} (h : hasKind k = true) : (hasPlace k = true ∧ hasRef k = true ∧ hasMin k = false ∧ hasBody k = true) ∨ (hasPlace k = true ∧ hasRef k = true ∧ hasMin k = false ∧ hasBody k = false) ∨ (hasPlace k = true ∧ hasRef k = false ∧ hasMin k = false ∧ hasBody k = false) ∨
    (hasPlace k = false ∧ hasRef k = true ∧ hasMin k = true ∧ hasBody k = false) ∨ (hasPlace k = false ∧ hasRef k = true ∧ hasMin k = false ∧ hasBody k = false) ∨ (hasPlace k = false ∧ hasRef k = false ∧ hasMin k = false ∧ hasBody k = false) := by
  have h := of_decide_eq_true h
  have h' : k = 1 ∨ k = 2 ∨ k = 3 ∨ k = 4 ∨ k = 5 ∨ k = 6 ∨ k = 7 ∨ k = 8 := by omega
  rcases h' with rfl | rfl | rfl | rfl | rfl | rfl | rfl | rfl <;> decide
theorem kind_no {k : Int} (h : hasKind k = false) : hasPlace k = false ∧ hasRef k = false ∧ hasMin k = false ∧ hasBody k = false := by
  have h := of_decide_eq_false h
  exact ⟨decide_eq_false (by omega), decide_eq_false (by omega), decide_eq_false (by omega), decide_eq_false (by omega)⟩
theorem right_any (x : Cel) (A : Option Addr) (c : Nat) (w : World) (hr : RdN w A x.body.length x.body) (hy : Byt x.body) :
    Calls Try.prog 34 #[.agg (celA x A c)] w fun e w' => e = .returned (.bool (rightB x)) ∧ Below w.heap.size w w' := by
  cases hK : hasKind x.kind with
  | false =>
    obtain ⟨h1, h2, h3, h4⟩ := kind_no hK
    exact right_none x A c w hr hy ⟨by rw [partsV, h1, h2, h3, h4]⟩ ⟨hK⟩ ⟨by rw [rightB, hK]; rfl⟩
  | true =>
    rcases kind_six hK with ⟨h1, h2, h3, h4⟩ | ⟨h1, h2, h3, h4⟩ | ⟨h1, h2, h3, h4⟩ | ⟨h1, h2, h3, h4⟩ | ⟨h1, h2, h3, h4⟩ | ⟨h1, h2, h3, h4⟩
    · exact right_prb x A c w hr hy ⟨by rw [partsV, h1, h2, h3, h4]⟩ ⟨hK⟩ ⟨by simp only [rightB, keepC, hK, h1, h2, h3, h4]; rfl⟩
    · exact right_pr x A c w hr hy ⟨by rw [partsV, h1, h2, h3, h4]⟩ ⟨hK⟩ ⟨by simp only [rightB, keepC, hK, h1, h2, h3, h4]; rfl⟩
    · exact right_p x A c w hr hy ⟨by rw [partsV, h1, h2, h3, h4]⟩ ⟨hK⟩ ⟨by simp only [rightB, keepC, hK, h1, h2, h3, h4]; rfl⟩
    · exact right_rm x A c w hr hy ⟨by rw [partsV, h1, h2, h3, h4]⟩ ⟨hK⟩ ⟨by simp only [rightB, keepC, hK, h1, h2, h3, h4]; rfl⟩
    · exact right_r x A c w hr hy ⟨by rw [partsV, h1, h2, h3, h4]⟩ ⟨hK⟩ ⟨by simp only [rightB, keepC, hK, h1, h2, h3, h4]; rfl⟩
    · exact right_n x A c w hr hy ⟨by rw [partsV, h1, h2, h3, h4]⟩ ⟨hK⟩ ⟨by simp only [rightB, keepC, hK, h1, h2, h3, h4]; rfl⟩
/-- A write? -/
def momentB (x : Cel) : Bool := decide (x.kind = 1 ∨ x.kind = 2 ∨ x.kind = 3)
end Go.Proofs.Ytghcnipehgjegaa.Cell
