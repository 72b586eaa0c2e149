/- CellSame answers true for every two cells. No conditions. -/
import Derived.Test.YtbbnjcpeikklgaaCellRefSame
namespace Go.Proofs.Ytbbnjcpeikklgaa.Cell
open Go.RowKit Go.Proofs.YtbbnjcpeikklgaaW.PrintWords Go.Proofs.YtbbnjcpeikklgaaW.PrintLast Go.Proofs.YtbbnjcpeikklgaaW.PrintMore Go.Proofs.Ytbbnjcpeikklgaa.Kit Go.Proofs.Ytbbnjcpeikklgaa.Plain Go.Proofs.Ytbbnjcpeikklgaa.Wire
set_option linter.unusedVariables false
set_option linter.unusedSimpArgs false
theorem CelTy.byt {x : Cel} (h : CelTy x) : Byt x.body := (CelTy.wf h).2.2
theorem sameB_comm (x y : Cel) : sameB y x = sameB x y := decide_eq_decide.2 ⟨fun h => h.symm, fun h => h.symm⟩
theorem sameB_self (x : Cel) : sameB x x = true := decide_eq_true rfl
theorem encR_yes {x : Cel} (h : rightB x = true) : encR x = (encS x, 0) := by rw [encR, h]; rfl
theorem encR_no {x : Cel} (h : rightB x = false) : encR x = ([], 3) := by rw [encR, h]; rfl
theorem encR_byt {x : Cel} (h : Byt x.body) : Byt (encR x).1 := by
  rw [encR]
  split
  · exact Byt.encS h
  · exact Byt.nil
def tabS5 : Bool × List (List Nat × List Nat) := (true, [([], []), ([], []), ([0, 1], [0, 1]), ([], []), ([], []), ([3, 4, 2], [3, 4]), ([2, 5], [2, 5]), ([6, 5], [6]), ([7], [7]), ([7], [7]), ([8, 9, 7, 7], [7, 8, 9]), ([7], [7]), ([7], [7]), ([11, 12, 10, 7], [7, 11, 12]), ([10, 13, 7], [7, 10, 13]), ([7, 14], [7, 14]), ([15, 13], [15]), ([16], [16]), ([16], [16]), ([17, 18, 16, 16], [16, 17, 18]), ([19, 16], [16, 19]), ([16, 20], [16, 20])])
theorem tabS5_ok : rtab .any (opsOf Try.f4 5) = tabS5 := by kernel_rfl
def tabS9 : Bool × List (List Nat × List Nat) := (true, [([], []), ([0], [0]), ([1], [1]), ([2], [2]), ([3, 2], [2, 3]), ([2, 4], [2, 4]), ([5, 2], [5]), ([6], [6]), ([7, 6], [6, 7]), ([6], [6]), ([9, 6], [6, 9]), ([8, 10, 6], [6, 8, 10]), ([6], [6]), ([6], [6]), ([12, 13, 6, 6], [6, 12, 13]), ([11, 14, 6], [6, 11, 14]), ([6, 15], [6, 15]), ([16, 14, 0, 1, 2, 3, 4, 5, 6, 7, 8, 9, 10, 11, 12, 13, 14, 15, 16], [16])])
theorem tabS9_ok : rtab .any (opsOf Try.f4 9) = tabS9 := by kernel_rfl
set_option maxHeartbeats 3200000 in
set_option maxRecDepth 100000 in
theorem same_law (cs0 cs1 : Array Value) (x y : Cel) (w : World) (hx : CelD.K w x cs0.toList) (hy : CelD.K w y cs1.toList) (htx : CelTy x) (hty : CelTy y) :
    Calls Try.prog 4 #[.agg cs0, .agg cs1] w fun e w' => e = .returned (.bool true) ∧ Below w.heap.size w w' := by
  obtain ⟨A, c, rfl, hc, hr⟩ := cel_open hx
  obtain ⟨B, c', rfl, hc', hr'⟩ := cel_open hy
  have HR := Aside0.mk hr
  have HR2 := Aside0.mk hr'
  have HT := Aside0.mk (And.intro htx hty)
  clear hx hy hr hr' htx hty hc hc'
  by_cases h1 : 100 < x.body.length
  · have g0 : decide (100 < (x.body.length : Int)) = true := decide_eq_true (by omega)
    go_enter Try.func4, Try.ntmps4
    go_wp2_with (go_at_call 12; go_must (refine (awake_any _).mono ?_; rintro e w1 ⟨rfl, hb⟩; obtain ⟨hq1, hq2⟩ := two_blk w x y A B c c'; have hxb := (hb.block _ (by simp; omega)).trans hq1; have hyb := (hb.block _ (by simp)).trans hq2; have HXB := Aside0.mk hxb; have HYB := Aside0.mk hyb; obtain ⟨c0, c1, c2, c3, c4, c5, c6, c7, c8, c9⟩ := cel_at (x := x) (A := A) (c := c) hxb; have c10 : w1.cell? ⟨w.heap.size, 10, none⟩ = some (.slice A x.body.length c) := blk_cell hxb 10; obtain ⟨d0, d1, d2, d3, d4, d5, d6, d7, d8, d9⟩ := cel_at (x := y) (A := B) (c := c') hyb; have d10 : w1.cell? ⟨(w.heap.size + 1), 10, none⟩ = some (.slice B y.body.length c') := blk_cell hyb 10; have HB := Aside0.mk ((below_alloc (below_alloc (Below.refl w.heap.size w) (.cells (celA x A c) 27)) (.cells (celA y B c') 27)).trans (hb.mono (by simp; omega))); clear hb hxb hyb hq1 hq2))
    go_ret
    exact ⟨rfl, HB.out⟩
  have g0 : decide (100 < (x.body.length : Int)) = false := decide_eq_false (by omega)
  by_cases h2 : 100 < y.body.length
  · have g1 : decide (100 < (y.body.length : Int)) = true := decide_eq_true (by omega)
    go_enter Try.func4, Try.ntmps4
    go_wp2_with (go_at_call 12; go_must (refine (awake_any _).mono ?_; rintro e w1 ⟨rfl, hb⟩; obtain ⟨hq1, hq2⟩ := two_blk w x y A B c c'; have hxb := (hb.block _ (by simp; omega)).trans hq1; have hyb := (hb.block _ (by simp)).trans hq2; have HXB := Aside0.mk hxb; have HYB := Aside0.mk hyb; obtain ⟨c0, c1, c2, c3, c4, c5, c6, c7, c8, c9⟩ := cel_at (x := x) (A := A) (c := c) hxb; have c10 : w1.cell? ⟨w.heap.size, 10, none⟩ = some (.slice A x.body.length c) := blk_cell hxb 10; obtain ⟨d0, d1, d2, d3, d4, d5, d6, d7, d8, d9⟩ := cel_at (x := y) (A := B) (c := c') hyb; have d10 : w1.cell? ⟨(w.heap.size + 1), 10, none⟩ = some (.slice B y.body.length c') := blk_cell hyb 10; have HB := Aside0.mk ((below_alloc (below_alloc (Below.refl w.heap.size w) (.cells (celA x A c) 27)) (.cells (celA y B c') 27)).trans (hb.mono (by simp; omega))); clear hb hxb hyb hq1 hq2))
    go_ret
    exact ⟨rfl, HB.out⟩
  have g1 : decide (100 < (y.body.length : Int)) = false := decide_eq_false (by omega)
  clear h1 h2
  go_enter Try.func4, Try.ntmps4
  go_wp2_with (go_at_call 12; go_must (refine (awake_any _).mono ?_; rintro e w1 ⟨rfl, hb⟩; obtain ⟨hq1, hq2⟩ := two_blk w x y A B c c'; have hxb := (hb.block _ (by simp; omega)).trans hq1; have hyb := (hb.block _ (by simp)).trans hq2; have HXB := Aside0.mk hxb; have HYB := Aside0.mk hyb; obtain ⟨c0, c1, c2, c3, c4, c5, c6, c7, c8, c9⟩ := cel_at (x := x) (A := A) (c := c) hxb; have c10 : w1.cell? ⟨w.heap.size, 10, none⟩ = some (.slice A x.body.length c) := blk_cell hxb 10; obtain ⟨d0, d1, d2, d3, d4, d5, d6, d7, d8, d9⟩ := cel_at (x := y) (A := B) (c := c') hyb; have d10 : w1.cell? ⟨(w.heap.size + 1), 10, none⟩ = some (.slice B y.body.length c') := blk_cell hyb 10; have HB := Aside0.mk ((below_alloc (below_alloc (Below.refl w.heap.size w) (.cells (celA x A c) 27)) (.cells (celA y B c') 27)).trans (hb.mono (by simp; omega))); clear hb hxb hyb hq1 hq2))
  clear c0 c1 c2 c3 c4 c5 c6 c7 c8 c9 c10 d0 d1 d2 d3 d4 d5 d6 d7 d8 d9 d10
  refine start_ (n := 22) (S := fun w' => w'.heap[w.heap.size]? = some (.cells (celA x A c) 27 (0, 0)) ∧ w'.heap[w.heap.size + 1]? = some (.cells (celA y B c') 27 (0, 0))) (ds := []) #[false, false, false, false, false, false, false, false, false, false, false, false, false, false, false, false, false, false, false, false, false, false] (by kernel_rfl) rfl rfl ⟨HXB.out, HYB.out⟩ (fun hHeld => ?_); refine with_tab tabS5_ok (fun HT_ => ?_)
  have hb : Below w1.heap.size w1 w1.drew := below_drew (Below.refl _ _)
  replace HB := Aside0.mk (HB.out.trans (hb.mono HB.out.size))
  clear hb
  refine take_ (i := 0) (N := some 21) (v := ?_) (a' := ?_) #[true, false, false, false, false, false, false, false, false, false, false, false, false, false, false, false, false, false, false, false, false, false] rfl rfl (take_of HT_.out (by kernel_rfl)) (fun _ _ _ h => h) (Or.inl ⟨by rfl, ?_⟩) hHeld ?_ ?_
  rotate_left
  · intro w' hw'
    obtain ⟨s0, s1⟩ := hw'; obtain ⟨c0, c1, c2, c3, c4, c5, c6, c7, c8, c9⟩ := cel_at (x := x) (A := A) (c := c) s0; have c10 : w'.cell? ⟨w.heap.size, 10, none⟩ = some (.slice A x.body.length c) := blk_cell s0 10
    go_simp
    with_reducible rfl
  rotate_left
  · simp only [Act.put, List.setIfInBounds_toArray, List.set_cons_zero, List.set_cons_succ]
    rfl
  refine take_ (i := 1) (N := some 22) (v := ?_) (a' := ?_) #[true, true, false, false, false, false, false, false, false, false, false, false, false, false, false, false, false, false, false, false, false, false] rfl rfl (take_of HT_.out (by kernel_rfl)) (fun _ _ _ h => h) (Or.inl ⟨by rfl, ?_⟩) hHeld ?_ ?_
  rotate_left
  · intro w' hw'
    obtain ⟨s0, s1⟩ := hw'; obtain ⟨c0, c1, c2, c3, c4, c5, c6, c7, c8, c9⟩ := cel_at (x := y) (A := B) (c := c') s1; have c10 : w'.cell? ⟨(w.heap.size + 1), 10, none⟩ = some (.slice B y.body.length c') := blk_cell s1 10
    go_simp
    with_reducible rfl
  rotate_left
  · simp only [Act.put, List.setIfInBounds_toArray, List.set_cons_zero, List.set_cons_succ]
    rfl
  refine take_ (i := 3) (N := some 24) (v := ?_) (a' := ?_) #[true, true, false, true, false, false, false, false, false, false, false, false, false, false, false, false, false, false, false, false, false, false] rfl rfl (take_of HT_.out (by kernel_rfl)) (fun _ _ _ h => h) (Or.inl ⟨by rfl, ?_⟩) hHeld ?_ ?_
  rotate_left
  · intro w' hw'
    obtain ⟨s0, s1⟩ := hw'; obtain ⟨c0, c1, c2, c3, c4, c5, c6, c7, c8, c9⟩ := cel_at (x := x) (A := A) (c := c) s0; have c10 : w'.cell? ⟨w.heap.size, 10, none⟩ = some (.slice A x.body.length c) := blk_cell s0 10
    go_simp
    with_reducible rfl
  rotate_left
  · simp only [Act.put, List.setIfInBounds_toArray, List.set_cons_zero, List.set_cons_succ]
    rfl
  refine take_ (i := 4) (N := some 25) (v := ?_) (a' := ?_) #[true, true, false, true, true, false, false, false, false, false, false, false, false, false, false, false, false, false, false, false, false, false] rfl rfl (take_of HT_.out (by kernel_rfl)) (fun _ _ _ h => h) (Or.inl ⟨by rfl, ?_⟩) hHeld ?_ ?_
  rotate_left
  · intro w' hw'
    obtain ⟨s0, s1⟩ := hw'; obtain ⟨c0, c1, c2, c3, c4, c5, c6, c7, c8, c9⟩ := cel_at (x := y) (A := B) (c := c') s1; have c10 : w'.cell? ⟨(w.heap.size + 1), 10, none⟩ = some (.slice B y.body.length c') := blk_cell s1 10
    go_simp
    with_reducible rfl
  rotate_left
  · simp only [Act.put, List.setIfInBounds_toArray, List.set_cons_zero, List.set_cons_succ]
    rfl
  refine one_ (i := 2) (N := some 23) #[true, true, true, true, true, false, false, false, false, false, false, false, false, false, false, false, false, false, false, false, false, false] rfl rfl (one_of HT_.out (by kernel_rfl)) (by decide) (fun Kq_ hK_ => ?_)
  refine goes_ Try.func16 (by kernel_rfl) rfl #[.agg (celA x A c), .agg (celA y B c')] (by rfl) rfl rfl (by (try simp only [List.map_toArray, List.map_cons, List.map_nil]); first | done | rfl) ?_
  with_reducible refine (same_any x y A B c c' _ (Kd.C_below HR.out HB.out) (Kd.C_below HR2.out HB.out) HT.out.1.byt HT.out.2.byt).mono ?_
  rintro e w' ⟨rfl, hb⟩
  refine ⟨_, rfl, ?_⟩
  replace HXB := Aside0.mk ((hb.block _ (blk_lt HXB.out)).trans HXB.out)
  replace HYB := Aside0.mk ((hb.block _ (blk_lt HYB.out)).trans HYB.out)
  replace HB := Aside0.mk (HB.out.trans (hb.mono HB.out.size))
  clear hb
  refine hK_.out _ _ ⟨HXB.out, HYB.out⟩ (fun hHeld => ?_)
  clear hK_ Kq_
  refine norm_ (a' := ?_) ?_ ?_
  rotate_left
  · show Act.put _ (some 23) _ = _
    simp only [Act.put, List.setIfInBounds_toArray, List.set_cons_zero, List.set_cons_succ]
    rfl
  refine one_ (i := 5) (N := some 26) #[true, true, true, true, true, true, false, false, false, false, false, false, false, false, false, false, false, false, false, false, false, false] rfl rfl (one_of HT_.out (by kernel_rfl)) (by decide) (fun Kq_ hK_ => ?_)
  refine goes_ Try.func17 (by kernel_rfl) rfl #[.agg (celA x A c), .agg (celA y B c')] (by rfl) rfl rfl (by (try simp only [List.map_toArray, List.map_cons, List.map_nil]); first | done | rfl) ?_
  with_reducible refine (refsame_any x y A B c c' _ (Kd.C_below HR.out HB.out) (Kd.C_below HR2.out HB.out) HT.out.1.byt HT.out.2.byt).mono ?_
  rintro e w' ⟨rfl, hb⟩
  refine ⟨_, rfl, ?_⟩
  replace HXB := Aside0.mk ((hb.block _ (blk_lt HXB.out)).trans HXB.out)
  replace HYB := Aside0.mk ((hb.block _ (blk_lt HYB.out)).trans HYB.out)
  replace HB := Aside0.mk (HB.out.trans (hb.mono HB.out.size))
  clear hb
  refine hK_.out _ _ ⟨HXB.out, HYB.out⟩ (fun hHeld => ?_)
  clear hK_ Kq_
  refine norm_ (a' := ?_) ?_ ?_
  rotate_left
  · show Act.put _ (some 26) _ = _
    simp only [Act.put, List.setIfInBounds_toArray, List.set_cons_zero, List.set_cons_succ]
    rfl
  refine pure_ (i := 6) (N := some 27) (v := (.bool false)) (a' := ?_) #[true, true, true, true, true, true, true, false, false, false, false, false, false, false, false, false, false, false, false, false, false, false] rfl rfl (any_of HT_.out (by kernel_rfl)) (fun _ _ _ h => h) (Or.inl ⟨by rfl, ?_⟩) ?_ ?_
  · intro w'
    go_simp
    first | done | rfl | (simp; done) | trace_state
  rotate_left
  · simp only [Act.put, List.setIfInBounds_toArray, List.set_cons_zero, List.set_cons_succ]
    rfl
  refine pure_ (i := 7) (N := some 28) (v := ?_) (a' := ?_) #[true, true, true, true, true, true, true, true, false, false, false, false, false, false, false, false, false, false, false, false, false, false] rfl rfl (any_of HT_.out (by kernel_rfl)) (fun _ _ _ h => h) (Or.inl ⟨by rfl, ?_⟩) ?_ ?_
  rotate_left
  · intro w'
    go_simp
    with_reducible rfl
  rotate_left
  · simp only [Act.put, List.setIfInBounds_toArray, List.set_cons_zero, List.set_cons_succ]
    rfl
  refine take_ (i := 8) (N := some 29) (v := ?_) (a' := ?_) #[true, true, true, true, true, true, true, true, true, false, false, false, false, false, false, false, false, false, false, false, false, false] rfl rfl (take_of HT_.out (by kernel_rfl)) (fun _ _ _ h => h) (Or.inl ⟨by rfl, ?_⟩) hHeld ?_ ?_
  rotate_left
  · intro w' hw'
    obtain ⟨s0, s1⟩ := hw'; obtain ⟨c0, c1, c2, c3, c4, c5, c6, c7, c8, c9⟩ := cel_at (x := y) (A := B) (c := c') s1; have c10 : w'.cell? ⟨(w.heap.size + 1), 10, none⟩ = some (.slice B y.body.length c') := blk_cell s1 10
    go_simp
    with_reducible rfl
  rotate_left
  · simp only [Act.put, List.setIfInBounds_toArray, List.set_cons_zero, List.set_cons_succ]
    rfl
  refine take_ (i := 9) (N := some 30) (v := ?_) (a' := ?_) #[true, true, true, true, true, true, true, true, true, true, false, false, false, false, false, false, false, false, false, false, false, false] rfl rfl (take_of HT_.out (by kernel_rfl)) (fun _ _ _ h => h) (Or.inl ⟨by rfl, ?_⟩) hHeld ?_ ?_
  rotate_left
  · intro w' hw'
    obtain ⟨s0, s1⟩ := hw'; obtain ⟨c0, c1, c2, c3, c4, c5, c6, c7, c8, c9⟩ := cel_at (x := x) (A := A) (c := c) s0; have c10 : w'.cell? ⟨w.heap.size, 10, none⟩ = some (.slice A x.body.length c) := blk_cell s0 10
    go_simp
    with_reducible rfl
  rotate_left
  · simp only [Act.put, List.setIfInBounds_toArray, List.set_cons_zero, List.set_cons_succ]
    rfl
  refine take_ (i := 11) (N := some 32) (v := ?_) (a' := ?_) #[true, true, true, true, true, true, true, true, true, true, false, true, false, false, false, false, false, false, false, false, false, false] rfl rfl (take_of HT_.out (by kernel_rfl)) (fun _ _ _ h => h) (Or.inl ⟨by rfl, ?_⟩) hHeld ?_ ?_
  rotate_left
  · intro w' hw'
    obtain ⟨s0, s1⟩ := hw'; obtain ⟨c0, c1, c2, c3, c4, c5, c6, c7, c8, c9⟩ := cel_at (x := x) (A := A) (c := c) s0; have c10 : w'.cell? ⟨w.heap.size, 10, none⟩ = some (.slice A x.body.length c) := blk_cell s0 10
    go_simp
    with_reducible rfl
  rotate_left
  · simp only [Act.put, List.setIfInBounds_toArray, List.set_cons_zero, List.set_cons_succ]
    rfl
  refine take_ (i := 12) (N := some 33) (v := ?_) (a' := ?_) #[true, true, true, true, true, true, true, true, true, true, false, true, true, false, false, false, false, false, false, false, false, false] rfl rfl (take_of HT_.out (by kernel_rfl)) (fun _ _ _ h => h) (Or.inl ⟨by rfl, ?_⟩) hHeld ?_ ?_
  rotate_left
  · intro w' hw'
    obtain ⟨s0, s1⟩ := hw'; obtain ⟨c0, c1, c2, c3, c4, c5, c6, c7, c8, c9⟩ := cel_at (x := y) (A := B) (c := c') s1; have c10 : w'.cell? ⟨(w.heap.size + 1), 10, none⟩ = some (.slice B y.body.length c') := blk_cell s1 10
    go_simp
    with_reducible rfl
  rotate_left
  · simp only [Act.put, List.setIfInBounds_toArray, List.set_cons_zero, List.set_cons_succ]
    rfl
  refine one_ (i := 10) (N := some 31) #[true, true, true, true, true, true, true, true, true, true, true, true, true, false, false, false, false, false, false, false, false, false] rfl rfl (one_of HT_.out (by kernel_rfl)) (by decide) (fun Kq_ hK_ => ?_)
  refine goes_ Try.func16 (by kernel_rfl) rfl #[.agg (celA y B c'), .agg (celA x A c)] (by rfl) rfl rfl (by (try simp only [List.map_toArray, List.map_cons, List.map_nil]); first | done | rfl) ?_
  with_reducible refine (same_any y x B A c' c _ (Kd.C_below HR2.out HB.out) (Kd.C_below HR.out HB.out) HT.out.2.byt HT.out.1.byt).mono ?_
  rintro e w' ⟨rfl, hb⟩
  refine ⟨_, rfl, ?_⟩
  rw [sameB_comm x y]
  replace HXB := Aside0.mk ((hb.block _ (blk_lt HXB.out)).trans HXB.out)
  replace HYB := Aside0.mk ((hb.block _ (blk_lt HYB.out)).trans HYB.out)
  replace HB := Aside0.mk (HB.out.trans (hb.mono HB.out.size))
  clear hb
  refine hK_.out _ _ ⟨HXB.out, HYB.out⟩ (fun hHeld => ?_)
  clear hK_ Kq_
  refine norm_ (a' := ?_) ?_ ?_
  rotate_left
  · show Act.put _ (some 31) _ = _
    simp only [Act.put, List.setIfInBounds_toArray, List.set_cons_zero, List.set_cons_succ]
    rfl
  refine one_ (i := 13) (N := some 34) #[true, true, true, true, true, true, true, true, true, true, true, true, true, true, false, false, false, false, false, false, false, false] rfl rfl (one_of HT_.out (by kernel_rfl)) (by decide) (fun Kq_ hK_ => ?_)
  refine goes_ Try.func17 (by kernel_rfl) rfl #[.agg (celA x A c), .agg (celA y B c')] (by rfl) rfl rfl (by (try simp only [List.map_toArray, List.map_cons, List.map_nil]); first | done | rfl) ?_
  with_reducible refine (refsame_any x y A B c c' _ (Kd.C_below HR.out HB.out) (Kd.C_below HR2.out HB.out) HT.out.1.byt HT.out.2.byt).mono ?_
  rintro e w' ⟨rfl, hb⟩
  refine ⟨_, rfl, ?_⟩
  replace HXB := Aside0.mk ((hb.block _ (blk_lt HXB.out)).trans HXB.out)
  replace HYB := Aside0.mk ((hb.block _ (blk_lt HYB.out)).trans HYB.out)
  replace HB := Aside0.mk (HB.out.trans (hb.mono HB.out.size))
  clear hb
  refine hK_.out _ _ ⟨HXB.out, HYB.out⟩ (fun hHeld => ?_)
  clear hK_ Kq_
  refine norm_ (a' := ?_) ?_ ?_
  rotate_left
  · show Act.put _ (some 34) _ = _
    simp only [Act.put, List.setIfInBounds_toArray, List.set_cons_zero, List.set_cons_succ]
    rfl
  refine pure_ (i := 14) (N := some 35) (v := (.bool false)) (a' := ?_) #[true, true, true, true, true, true, true, true, true, true, true, true, true, true, true, false, false, false, false, false, false, false] rfl rfl (any_of HT_.out (by kernel_rfl)) (fun _ _ _ h => h) (Or.inl ⟨by rfl, ?_⟩) ?_ ?_
  · intro w'
    go_simp
    first | done | rfl | (simp; done) | trace_state
  rotate_left
  · simp only [Act.put, List.setIfInBounds_toArray, List.set_cons_zero, List.set_cons_succ]
    rfl
  refine pure_ (i := 15) (N := some 36) (v := ?_) (a' := ?_) #[true, true, true, true, true, true, true, true, true, true, true, true, true, true, true, true, false, false, false, false, false, false] rfl rfl (any_of HT_.out (by kernel_rfl)) (fun _ _ _ h => h) (Or.inl ⟨by rfl, ?_⟩) ?_ ?_
  rotate_left
  · intro w'
    go_simp
    with_reducible rfl
  rotate_left
  · simp only [Act.put, List.setIfInBounds_toArray, List.set_cons_zero, List.set_cons_succ]
    rfl
  refine pure_ (i := 16) (N := some 37) (v := ?_) (a' := ?_) #[true, true, true, true, true, true, true, true, true, true, true, true, true, true, true, true, true, false, false, false, false, false] rfl rfl (any_of HT_.out (by kernel_rfl)) (fun _ _ _ h => h) (Or.inl ⟨by rfl, ?_⟩) ?_ ?_
  rotate_left
  · intro w'
    go_simp
    with_reducible rfl
  rotate_left
  · simp only [Act.put, List.setIfInBounds_toArray, List.set_cons_zero, List.set_cons_succ]
    rfl
  refine take_ (i := 17) (N := some 38) (v := ?_) (a' := ?_) #[true, true, true, true, true, true, true, true, true, true, true, true, true, true, true, true, true, true, false, false, false, false] rfl rfl (take_of HT_.out (by kernel_rfl)) (fun _ _ _ h => h) (Or.inl ⟨by rfl, ?_⟩) hHeld ?_ ?_
  rotate_left
  · intro w' hw'
    obtain ⟨s0, s1⟩ := hw'; obtain ⟨c0, c1, c2, c3, c4, c5, c6, c7, c8, c9⟩ := cel_at (x := x) (A := A) (c := c) s0; have c10 : w'.cell? ⟨w.heap.size, 10, none⟩ = some (.slice A x.body.length c) := blk_cell s0 10
    go_simp
    with_reducible rfl
  rotate_left
  · simp only [Act.put, List.setIfInBounds_toArray, List.set_cons_zero, List.set_cons_succ]
    rfl
  refine take_ (i := 18) (N := some 39) (v := ?_) (a' := ?_) #[true, true, true, true, true, true, true, true, true, true, true, true, true, true, true, true, true, true, true, false, false, false] rfl rfl (take_of HT_.out (by kernel_rfl)) (fun _ _ _ h => h) (Or.inl ⟨by rfl, ?_⟩) hHeld ?_ ?_
  rotate_left
  · intro w' hw'
    obtain ⟨s0, s1⟩ := hw'; obtain ⟨c0, c1, c2, c3, c4, c5, c6, c7, c8, c9⟩ := cel_at (x := x) (A := A) (c := c) s0; have c10 : w'.cell? ⟨w.heap.size, 10, none⟩ = some (.slice A x.body.length c) := blk_cell s0 10
    go_simp
    with_reducible rfl
  rotate_left
  · simp only [Act.put, List.setIfInBounds_toArray, List.set_cons_zero, List.set_cons_succ]
    rfl
  refine one_ (i := 19) (N := some 40) #[true, true, true, true, true, true, true, true, true, true, true, true, true, true, true, true, true, true, true, true, false, false] rfl rfl (one_of HT_.out (by kernel_rfl)) (by decide) (fun Kq_ hK_ => ?_)
  refine goes_ Try.func16 (by kernel_rfl) rfl #[.agg (celA x A c), .agg (celA x A c)] (by rfl) rfl rfl (by (try simp only [List.map_toArray, List.map_cons, List.map_nil]); first | done | rfl) ?_
  with_reducible refine (same_any x x A A c c _ (Kd.C_below HR.out HB.out) (Kd.C_below HR.out HB.out) HT.out.1.byt HT.out.1.byt).mono ?_
  rintro e w' ⟨rfl, hb⟩
  refine ⟨_, rfl, ?_⟩
  rw [sameB_self x]
  replace HXB := Aside0.mk ((hb.block _ (blk_lt HXB.out)).trans HXB.out)
  replace HYB := Aside0.mk ((hb.block _ (blk_lt HYB.out)).trans HYB.out)
  replace HB := Aside0.mk (HB.out.trans (hb.mono HB.out.size))
  clear hb
  refine hK_.out _ _ ⟨HXB.out, HYB.out⟩ (fun hHeld => ?_)
  clear hK_ Kq_
  refine norm_ (a' := ?_) ?_ ?_
  rotate_left
  · show Act.put _ (some 40) _ = _
    simp only [Act.put, List.setIfInBounds_toArray, List.set_cons_zero, List.set_cons_succ]
    rfl
  refine pure_ (i := 20) (N := some 41) (v := ?_) (a' := ?_) #[true, true, true, true, true, true, true, true, true, true, true, true, true, true, true, true, true, true, true, true, true, false] rfl rfl (any_of HT_.out (by kernel_rfl)) (fun _ _ _ h => h) (Or.inl ⟨by rfl, ?_⟩) ?_ ?_
  rotate_left
  · intro w'
    go_simp
    with_reducible rfl
  rotate_left
  · simp only [Act.put, List.setIfInBounds_toArray, List.set_cons_zero, List.set_cons_succ]
    rfl
  refine pure_ (i := 21) (N := some 42) (v := ?_) (a' := ?_) #[true, true, true, true, true, true, true, true, true, true, true, true, true, true, true, true, true, true, true, true, true, true] rfl rfl (any_of HT_.out (by kernel_rfl)) (fun _ _ _ h => h) (Or.inl ⟨by rfl, ?_⟩) ?_ ?_
  rotate_left
  · intro w'
    go_simp
    with_reducible rfl
  rotate_left
  · simp only [Act.put, List.setIfInBounds_toArray, List.set_cons_zero, List.set_cons_succ]
    rfl
  refine done_ (done_of HT_.out (by kernel_rfl)) ?_
  clear HT_ hHeld
  have hx := HXB.out
  have hy := HYB.out
  obtain ⟨c0, c1, c2, c3, c4, c5, c6, c7, c8, c9⟩ := cel_at (x := x) (A := A) (c := c) hx; have c10 : w'.cell? ⟨w.heap.size, 10, none⟩ = some (.slice A x.body.length c) := blk_cell hx 10
  obtain ⟨d0, d1, d2, d3, d4, d5, d6, d7, d8, d9⟩ := cel_at (x := y) (A := B) (c := c') hy; have d10 : w'.cell? ⟨(w.heap.size + 1), 10, none⟩ = some (.slice B y.body.length c') := blk_cell hy 10
  clear hx hy
  cases hxr : rightB x with
  | false =>
    have HE1 := Aside0.mk (show (encR x).2 = 3 by rw [encR_no hxr])
    obtain ⟨e8, he8⟩ : ∃ e8, (encR y).2 = e8 := ⟨_, rfl⟩
    have HE2 := Aside0.mk he8
    clear he8
    go_wp2_with (first
    | (go_at_call 13; (with_reducible refine (encode_any x A c _ (Kd.C_below HR.out HB.out) (CelTy.wf HT.out.1)).mono ?_); go_must (rintro e y7 ⟨⟨v7, rfl, ho⟩, hb⟩; obtain ⟨A7, k7, rfl, hcap7, hr7⟩ := Ow_slice ho; have HR7 := Aside0.mk hr7; clear ho hr7 hcap7; replace HXB := Aside0.mk ((hb.block _ (blk_lt HXB.out)).trans HXB.out); replace HYB := Aside0.mk ((hb.block _ (blk_lt HYB.out)).trans HYB.out); replace c0 := pw_cell_below hb c0; replace c1 := pw_cell_below hb c1; replace c2 := pw_cell_below hb c2; replace c3 := pw_cell_below hb c3; replace c4 := pw_cell_below hb c4; replace c5 := pw_cell_below hb c5; replace c6 := pw_cell_below hb c6; replace c7 := pw_cell_below hb c7; replace c8 := pw_cell_below hb c8; replace c9 := pw_cell_below hb c9; replace c10 := pw_cell_below hb c10; replace d0 := pw_cell_below hb d0; replace d1 := pw_cell_below hb d1; replace d2 := pw_cell_below hb d2; replace d3 := pw_cell_below hb d3; replace d4 := pw_cell_below hb d4; replace d5 := pw_cell_below hb d5; replace d6 := pw_cell_below hb d6; replace d7 := pw_cell_below hb d7; replace d8 := pw_cell_below hb d8; replace d9 := pw_cell_below hb d9; replace d10 := pw_cell_below hb d10; rw [HE1.out]; replace HB := Aside0.mk (HB.out.trans (hb.mono HB.out.size)); clear hb))
    | (go_at_call 13; (with_reducible refine (encode_any y B c' _ (Kd.C_below HR2.out HB.out) (CelTy.wf HT.out.2)).mono ?_); go_must (rintro e y8 ⟨⟨v8, rfl, ho⟩, hb⟩; obtain ⟨A8, k8, rfl, hcap8, hr8⟩ := Ow_slice ho; have HR8 := Aside0.mk hr8; replace HR7 := Aside0.mk (Kd.C_below HR7.out hb); clear ho hr8 hcap8; replace HXB := Aside0.mk ((hb.block _ (blk_lt HXB.out)).trans HXB.out); replace HYB := Aside0.mk ((hb.block _ (blk_lt HYB.out)).trans HYB.out); replace c0 := pw_cell_below hb c0; replace c1 := pw_cell_below hb c1; replace c2 := pw_cell_below hb c2; replace c3 := pw_cell_below hb c3; replace c4 := pw_cell_below hb c4; replace c5 := pw_cell_below hb c5; replace c6 := pw_cell_below hb c6; replace c7 := pw_cell_below hb c7; replace c8 := pw_cell_below hb c8; replace c9 := pw_cell_below hb c9; replace c10 := pw_cell_below hb c10; replace d0 := pw_cell_below hb d0; replace d1 := pw_cell_below hb d1; replace d2 := pw_cell_below hb d2; replace d3 := pw_cell_below hb d3; replace d4 := pw_cell_below hb d4; replace d5 := pw_cell_below hb d5; replace d6 := pw_cell_below hb d6; replace d7 := pw_cell_below hb d7; replace d8 := pw_cell_below hb d8; replace d9 := pw_cell_below hb d9; replace d10 := pw_cell_below hb d10; rw [HE2.out]; replace HB := Aside0.mk (HB.out.trans (hb.mono HB.out.size)); clear hb)))
    refine start_ (n := 18) (S := fun w' => w'.heap[w.heap.size]? = some (.cells (celA x A c) 27 (0, 0)) ∧ w'.heap[w.heap.size + 1]? = some (.cells (celA y B c') 27 (0, 0)) ∧ RdB w' A7 (encR x).1 ∧ RdB w' A8 (encR y).1) (ds := []) #[false, false, false, false, false, false, false, false, false, false, false, false, false, false, false, false, false, false] (by kernel_rfl) rfl rfl ⟨HXB.out, HYB.out, Kd.C_below HR7.out (below_drew (Below.refl _ _)), Kd.C_below HR8.out (below_drew (Below.refl _ _))⟩ (fun hHeld => ?_); refine with_tab tabS9_ok (fun HT_ => ?_)
    have hb : Below y8.heap.size y8 y8.drew := below_drew (Below.refl _ _)
    replace HR7 := Aside0.mk (Kd.C_below HR7.out hb)
    replace HR8 := Aside0.mk (Kd.C_below HR8.out hb)
    replace HB := Aside0.mk (HB.out.trans (hb.mono HB.out.size))
    clear hb
    refine pure_ (i := 0) (N := some 53) (v := ?_) (a' := ?_) #[true, false, false, false, false, false, false, false, false, false, false, false, false, false, false, false, false, false] rfl rfl (any_of HT_.out (by kernel_rfl)) (fun _ _ _ h => h) (Or.inl ⟨by rfl, ?_⟩) ?_ ?_
    rotate_left
    · intro w'
      go_simp
      with_reducible rfl
    rotate_left
    · simp only [Act.put, List.setIfInBounds_toArray, List.set_cons_zero, List.set_cons_succ]
      rfl
    refine pure_ (i := 1) (N := some 54) (v := ?_) (a' := ?_) #[true, true, false, false, false, false, false, false, false, false, false, false, false, false, false, false, false, false] rfl rfl (any_of HT_.out (by kernel_rfl)) (fun _ _ _ h => h) (Or.inl ⟨by rfl, ?_⟩) ?_ ?_
    rotate_left
    · intro w'
      go_simp
      with_reducible rfl
    rotate_left
    · simp only [Act.put, List.setIfInBounds_toArray, List.set_cons_zero, List.set_cons_succ]
      rfl
    refine pure_ (i := 2) (N := some 55) (v := ?_) (a' := ?_) #[true, true, true, false, false, false, false, false, false, false, false, false, false, false, false, false, false, false] rfl rfl (any_of HT_.out (by kernel_rfl)) (fun _ _ _ h => h) (Or.inl ⟨by rfl, ?_⟩) ?_ ?_
    rotate_left
    · intro w'
      go_simp
      with_reducible rfl
    rotate_left
    · simp only [Act.put, List.setIfInBounds_toArray, List.set_cons_zero, List.set_cons_succ]
      rfl
    refine pure_ (i := 3) (N := some 56) (v := undef) (a' := ?_) #[true, true, true, true, false, false, false, false, false, false, false, false, false, false, false, false, false, false] rfl rfl (any_of HT_.out (by kernel_rfl)) (fun _ _ _ h => h) (Or.inr ⟨by rfl, rfl⟩) ?_ ?_
    rotate_left
    · simp only [Act.put, List.setIfInBounds_toArray, List.set_cons_zero, List.set_cons_succ]
      rfl
    refine pure_ (i := 4) (N := some 57) (v := undef) (a' := ?_) #[true, true, true, true, true, false, false, false, false, false, false, false, false, false, false, false, false, false] rfl rfl (any_of HT_.out (by kernel_rfl)) (fun _ _ _ h => h) (Or.inr ⟨by rfl, rfl⟩) ?_ ?_
    rotate_left
    · simp only [Act.put, List.setIfInBounds_toArray, List.set_cons_zero, List.set_cons_succ]
      rfl
    refine pure_ (i := 5) (N := some 58) (v := ?_) (a' := ?_) #[true, true, true, true, true, true, false, false, false, false, false, false, false, false, false, false, false, false] rfl rfl (any_of HT_.out (by kernel_rfl)) (fun _ _ _ h => h) (Or.inl ⟨by rfl, ?_⟩) ?_ ?_
    rotate_left
    · intro w'
      go_simp
      with_reducible rfl
    rotate_left
    · simp only [Act.put, List.setIfInBounds_toArray, List.set_cons_zero, List.set_cons_succ]
      rfl
    refine pure_ (i := 6) (N := some 59) (v := ?_) (a' := ?_) #[true, true, true, true, true, true, true, false, false, false, false, false, false, false, false, false, false, false] rfl rfl (any_of HT_.out (by kernel_rfl)) (fun _ _ _ h => h) (Or.inl ⟨by rfl, ?_⟩) ?_ ?_
    rotate_left
    · intro w'
      go_simp
      with_reducible rfl
    rotate_left
    · simp only [Act.put, List.setIfInBounds_toArray, List.set_cons_zero, List.set_cons_succ]
      rfl
    refine pure_ (i := 7) (N := some 60) (v := undef) (a' := ?_) #[true, true, true, true, true, true, true, true, false, false, false, false, false, false, false, false, false, false] rfl rfl (any_of HT_.out (by kernel_rfl)) (fun _ _ _ h => h) (Or.inr ⟨by rfl, rfl⟩) ?_ ?_
    rotate_left
    · simp only [Act.put, List.setIfInBounds_toArray, List.set_cons_zero, List.set_cons_succ]
      rfl
    refine pure_ (i := 8) (N := some 61) (v := undef) (a' := ?_) #[true, true, true, true, true, true, true, true, true, false, false, false, false, false, false, false, false, false] rfl rfl (any_of HT_.out (by kernel_rfl)) (fun _ _ _ h => h) (Or.inr ⟨by rfl, rfl⟩) ?_ ?_
    rotate_left
    · simp only [Act.put, List.setIfInBounds_toArray, List.set_cons_zero, List.set_cons_succ]
      rfl
    refine pure_ (i := 9) (N := some 62) (v := undef) (a' := ?_) #[true, true, true, true, true, true, true, true, true, true, false, false, false, false, false, false, false, false] rfl rfl (any_of HT_.out (by kernel_rfl)) (fun _ _ _ h => h) (Or.inr ⟨by rfl, rfl⟩) ?_ ?_
    rotate_left
    · simp only [Act.put, List.setIfInBounds_toArray, List.set_cons_zero, List.set_cons_succ]
      rfl
    refine pure_ (i := 10) (N := some 63) (v := undef) (a' := ?_) #[true, true, true, true, true, true, true, true, true, true, true, false, false, false, false, false, false, false] rfl rfl (any_of HT_.out (by kernel_rfl)) (fun _ _ _ h => h) (Or.inr ⟨by rfl, rfl⟩) ?_ ?_
    rotate_left
    · simp only [Act.put, List.setIfInBounds_toArray, List.set_cons_zero, List.set_cons_succ]
      rfl
    refine pure_ (i := 11) (N := some 64) (v := undef) (a' := ?_) #[true, true, true, true, true, true, true, true, true, true, true, true, false, false, false, false, false, false] rfl rfl (any_of HT_.out (by kernel_rfl)) (fun _ _ _ h => h) (Or.inr ⟨by rfl, rfl⟩) ?_ ?_
    rotate_left
    · simp only [Act.put, List.setIfInBounds_toArray, List.set_cons_zero, List.set_cons_succ]
      rfl
    refine pure_ (i := 12) (N := some 65) (v := undef) (a' := ?_) #[true, true, true, true, true, true, true, true, true, true, true, true, true, false, false, false, false, false] rfl rfl (any_of HT_.out (by kernel_rfl)) (fun _ _ _ h => h) (Or.inr ⟨by rfl, rfl⟩) ?_ ?_
    rotate_left
    · simp only [Act.put, List.setIfInBounds_toArray, List.set_cons_zero, List.set_cons_succ]
      rfl
    refine pure_ (i := 13) (N := some 66) (v := undef) (a' := ?_) #[true, true, true, true, true, true, true, true, true, true, true, true, true, true, false, false, false, false] rfl rfl (any_of HT_.out (by kernel_rfl)) (fun _ _ _ h => h) (Or.inr ⟨by rfl, rfl⟩) ?_ ?_
    rotate_left
    · simp only [Act.put, List.setIfInBounds_toArray, List.set_cons_zero, List.set_cons_succ]
      rfl
    refine pure_ (i := 14) (N := some 67) (v := undef) (a' := ?_) #[true, true, true, true, true, true, true, true, true, true, true, true, true, true, true, false, false, false] rfl rfl (any_of HT_.out (by kernel_rfl)) (fun _ _ _ h => h) (Or.inr ⟨by rfl, rfl⟩) ?_ ?_
    rotate_left
    · simp only [Act.put, List.setIfInBounds_toArray, List.set_cons_zero, List.set_cons_succ]
      rfl
    refine pure_ (i := 15) (N := some 68) (v := undef) (a' := ?_) #[true, true, true, true, true, true, true, true, true, true, true, true, true, true, true, true, false, false] rfl rfl (any_of HT_.out (by kernel_rfl)) (fun _ _ _ h => h) (Or.inr ⟨by rfl, rfl⟩) ?_ ?_
    rotate_left
    · simp only [Act.put, List.setIfInBounds_toArray, List.set_cons_zero, List.set_cons_succ]
      rfl
    refine pure_ (i := 16) (N := some 69) (v := ?_) (a' := ?_) #[true, true, true, true, true, true, true, true, true, true, true, true, true, true, true, true, true, false] rfl rfl (any_of HT_.out (by kernel_rfl)) (fun _ _ _ h => h) (Or.inl ⟨by rfl, ?_⟩) ?_ ?_
    rotate_left
    · intro w'
      go_simp
      with_reducible rfl
    rotate_left
    · simp only [Act.put, List.setIfInBounds_toArray, List.set_cons_zero, List.set_cons_succ]
      rfl
    refine pure_ (i := 17) (N := some 4) (v := ?_) (a' := ?_) #[true, true, true, true, true, true, true, true, true, true, true, true, true, true, true, true, true, true] rfl rfl (any_of HT_.out (by kernel_rfl)) (fun _ _ _ h => h) (Or.inl ⟨by rfl, ?_⟩) ?_ ?_
    rotate_left
    · intro w'
      go_simp
      with_reducible rfl
    rotate_left
    · simp only [Act.put, List.setIfInBounds_toArray, List.set_cons_zero, List.set_cons_succ]
      rfl
    refine done_ (done_of HT_.out (by kernel_rfl)) ?_
    clear HT_ hHeld
    go_wp2
    go_ret
    exact ⟨rfl, HB.out⟩
  | true =>
    have HE1 := Aside0.mk (show (encR x).2 = 0 by rw [encR_yes hxr])
    cases hyr : rightB y with
    | false =>
      have HE2 := Aside0.mk (show (encR y).2 = 3 by rw [encR_no hyr])
      go_wp2_with (first
    | (go_at_call 13; (with_reducible refine (encode_any x A c _ (Kd.C_below HR.out HB.out) (CelTy.wf HT.out.1)).mono ?_); go_must (rintro e y7 ⟨⟨v7, rfl, ho⟩, hb⟩; obtain ⟨A7, k7, rfl, hcap7, hr7⟩ := Ow_slice ho; have HR7 := Aside0.mk hr7; clear ho hr7 hcap7; replace HXB := Aside0.mk ((hb.block _ (blk_lt HXB.out)).trans HXB.out); replace HYB := Aside0.mk ((hb.block _ (blk_lt HYB.out)).trans HYB.out); replace c0 := pw_cell_below hb c0; replace c1 := pw_cell_below hb c1; replace c2 := pw_cell_below hb c2; replace c3 := pw_cell_below hb c3; replace c4 := pw_cell_below hb c4; replace c5 := pw_cell_below hb c5; replace c6 := pw_cell_below hb c6; replace c7 := pw_cell_below hb c7; replace c8 := pw_cell_below hb c8; replace c9 := pw_cell_below hb c9; replace c10 := pw_cell_below hb c10; replace d0 := pw_cell_below hb d0; replace d1 := pw_cell_below hb d1; replace d2 := pw_cell_below hb d2; replace d3 := pw_cell_below hb d3; replace d4 := pw_cell_below hb d4; replace d5 := pw_cell_below hb d5; replace d6 := pw_cell_below hb d6; replace d7 := pw_cell_below hb d7; replace d8 := pw_cell_below hb d8; replace d9 := pw_cell_below hb d9; replace d10 := pw_cell_below hb d10; rw [HE1.out]; replace HB := Aside0.mk (HB.out.trans (hb.mono HB.out.size)); clear hb))
    | (go_at_call 13; (with_reducible refine (encode_any y B c' _ (Kd.C_below HR2.out HB.out) (CelTy.wf HT.out.2)).mono ?_); go_must (rintro e y8 ⟨⟨v8, rfl, ho⟩, hb⟩; obtain ⟨A8, k8, rfl, hcap8, hr8⟩ := Ow_slice ho; have HR8 := Aside0.mk hr8; replace HR7 := Aside0.mk (Kd.C_below HR7.out hb); clear ho hr8 hcap8; replace HXB := Aside0.mk ((hb.block _ (blk_lt HXB.out)).trans HXB.out); replace HYB := Aside0.mk ((hb.block _ (blk_lt HYB.out)).trans HYB.out); replace c0 := pw_cell_below hb c0; replace c1 := pw_cell_below hb c1; replace c2 := pw_cell_below hb c2; replace c3 := pw_cell_below hb c3; replace c4 := pw_cell_below hb c4; replace c5 := pw_cell_below hb c5; replace c6 := pw_cell_below hb c6; replace c7 := pw_cell_below hb c7; replace c8 := pw_cell_below hb c8; replace c9 := pw_cell_below hb c9; replace c10 := pw_cell_below hb c10; replace d0 := pw_cell_below hb d0; replace d1 := pw_cell_below hb d1; replace d2 := pw_cell_below hb d2; replace d3 := pw_cell_below hb d3; replace d4 := pw_cell_below hb d4; replace d5 := pw_cell_below hb d5; replace d6 := pw_cell_below hb d6; replace d7 := pw_cell_below hb d7; replace d8 := pw_cell_below hb d8; replace d9 := pw_cell_below hb d9; replace d10 := pw_cell_below hb d10; rw [HE2.out]; replace HB := Aside0.mk (HB.out.trans (hb.mono HB.out.size)); clear hb)))
      refine start_ (n := 18) (S := fun w' => w'.heap[w.heap.size]? = some (.cells (celA x A c) 27 (0, 0)) ∧ w'.heap[w.heap.size + 1]? = some (.cells (celA y B c') 27 (0, 0)) ∧ RdB w' A7 (encR x).1 ∧ RdB w' A8 (encR y).1) (ds := []) #[false, false, false, false, false, false, false, false, false, false, false, false, false, false, false, false, false, false] (by kernel_rfl) rfl rfl ⟨HXB.out, HYB.out, Kd.C_below HR7.out (below_drew (Below.refl _ _)), Kd.C_below HR8.out (below_drew (Below.refl _ _))⟩ (fun hHeld => ?_); refine with_tab tabS9_ok (fun HT_ => ?_)
      have hb : Below y8.heap.size y8 y8.drew := below_drew (Below.refl _ _)
      replace HR7 := Aside0.mk (Kd.C_below HR7.out hb)
      replace HR8 := Aside0.mk (Kd.C_below HR8.out hb)
      replace HB := Aside0.mk (HB.out.trans (hb.mono HB.out.size))
      clear hb
      refine pure_ (i := 0) (N := some 53) (v := ?_) (a' := ?_) #[true, false, false, false, false, false, false, false, false, false, false, false, false, false, false, false, false, false] rfl rfl (any_of HT_.out (by kernel_rfl)) (fun _ _ _ h => h) (Or.inl ⟨by rfl, ?_⟩) ?_ ?_
      rotate_left
      · intro w'
        go_simp
        with_reducible rfl
      rotate_left
      · simp only [Act.put, List.setIfInBounds_toArray, List.set_cons_zero, List.set_cons_succ]
        rfl
      refine pure_ (i := 1) (N := some 54) (v := ?_) (a' := ?_) #[true, true, false, false, false, false, false, false, false, false, false, false, false, false, false, false, false, false] rfl rfl (any_of HT_.out (by kernel_rfl)) (fun _ _ _ h => h) (Or.inl ⟨by rfl, ?_⟩) ?_ ?_
      rotate_left
      · intro w'
        go_simp
        with_reducible rfl
      rotate_left
      · simp only [Act.put, List.setIfInBounds_toArray, List.set_cons_zero, List.set_cons_succ]
        rfl
      refine pure_ (i := 2) (N := some 55) (v := ?_) (a' := ?_) #[true, true, true, false, false, false, false, false, false, false, false, false, false, false, false, false, false, false] rfl rfl (any_of HT_.out (by kernel_rfl)) (fun _ _ _ h => h) (Or.inl ⟨by rfl, ?_⟩) ?_ ?_
      rotate_left
      · intro w'
        go_simp
        with_reducible rfl
      rotate_left
      · simp only [Act.put, List.setIfInBounds_toArray, List.set_cons_zero, List.set_cons_succ]
        rfl
      refine pure_ (i := 3) (N := some 56) (v := ?_) (a' := ?_) #[true, true, true, true, false, false, false, false, false, false, false, false, false, false, false, false, false, false] rfl rfl (any_of HT_.out (by kernel_rfl)) (fun _ _ _ h => h) (Or.inl ⟨by rfl, ?_⟩) ?_ ?_
      rotate_left
      · intro w'
        go_simp
        with_reducible rfl
      rotate_left
      · simp only [Act.put, List.setIfInBounds_toArray, List.set_cons_zero, List.set_cons_succ]
        rfl
      refine pure_ (i := 4) (N := some 57) (v := ?_) (a' := ?_) #[true, true, true, true, true, false, false, false, false, false, false, false, false, false, false, false, false, false] rfl rfl (any_of HT_.out (by kernel_rfl)) (fun _ _ _ h => h) (Or.inl ⟨by rfl, ?_⟩) ?_ ?_
      rotate_left
      · intro w'
        go_simp
        with_reducible rfl
      rotate_left
      · simp only [Act.put, List.setIfInBounds_toArray, List.set_cons_zero, List.set_cons_succ]
        rfl
      refine pure_ (i := 5) (N := some 58) (v := ?_) (a' := ?_) #[true, true, true, true, true, true, false, false, false, false, false, false, false, false, false, false, false, false] rfl rfl (any_of HT_.out (by kernel_rfl)) (fun _ _ _ h => h) (Or.inl ⟨by rfl, ?_⟩) ?_ ?_
      rotate_left
      · intro w'
        go_simp
        with_reducible rfl
      rotate_left
      · simp only [Act.put, List.setIfInBounds_toArray, List.set_cons_zero, List.set_cons_succ]
        rfl
      refine pure_ (i := 6) (N := some 59) (v := ?_) (a' := ?_) #[true, true, true, true, true, true, true, false, false, false, false, false, false, false, false, false, false, false] rfl rfl (any_of HT_.out (by kernel_rfl)) (fun _ _ _ h => h) (Or.inl ⟨by rfl, ?_⟩) ?_ ?_
      rotate_left
      · intro w'
        go_simp
        with_reducible rfl
      rotate_left
      · simp only [Act.put, List.setIfInBounds_toArray, List.set_cons_zero, List.set_cons_succ]
        rfl
      refine pure_ (i := 7) (N := some 60) (v := undef) (a' := ?_) #[true, true, true, true, true, true, true, true, false, false, false, false, false, false, false, false, false, false] rfl rfl (any_of HT_.out (by kernel_rfl)) (fun _ _ _ h => h) (Or.inr ⟨by rfl, rfl⟩) ?_ ?_
      rotate_left
      · simp only [Act.put, List.setIfInBounds_toArray, List.set_cons_zero, List.set_cons_succ]
        rfl
      refine pure_ (i := 8) (N := some 61) (v := undef) (a' := ?_) #[true, true, true, true, true, true, true, true, true, false, false, false, false, false, false, false, false, false] rfl rfl (any_of HT_.out (by kernel_rfl)) (fun _ _ _ h => h) (Or.inr ⟨by rfl, rfl⟩) ?_ ?_
      rotate_left
      · simp only [Act.put, List.setIfInBounds_toArray, List.set_cons_zero, List.set_cons_succ]
        rfl
      refine pure_ (i := 9) (N := some 62) (v := undef) (a' := ?_) #[true, true, true, true, true, true, true, true, true, true, false, false, false, false, false, false, false, false] rfl rfl (any_of HT_.out (by kernel_rfl)) (fun _ _ _ h => h) (Or.inr ⟨by rfl, rfl⟩) ?_ ?_
      rotate_left
      · simp only [Act.put, List.setIfInBounds_toArray, List.set_cons_zero, List.set_cons_succ]
        rfl
      refine pure_ (i := 10) (N := some 63) (v := undef) (a' := ?_) #[true, true, true, true, true, true, true, true, true, true, true, false, false, false, false, false, false, false] rfl rfl (any_of HT_.out (by kernel_rfl)) (fun _ _ _ h => h) (Or.inr ⟨by rfl, rfl⟩) ?_ ?_
      rotate_left
      · simp only [Act.put, List.setIfInBounds_toArray, List.set_cons_zero, List.set_cons_succ]
        rfl
      refine pure_ (i := 11) (N := some 64) (v := undef) (a' := ?_) #[true, true, true, true, true, true, true, true, true, true, true, true, false, false, false, false, false, false] rfl rfl (any_of HT_.out (by kernel_rfl)) (fun _ _ _ h => h) (Or.inr ⟨by rfl, rfl⟩) ?_ ?_
      rotate_left
      · simp only [Act.put, List.setIfInBounds_toArray, List.set_cons_zero, List.set_cons_succ]
        rfl
      refine pure_ (i := 12) (N := some 65) (v := undef) (a' := ?_) #[true, true, true, true, true, true, true, true, true, true, true, true, true, false, false, false, false, false] rfl rfl (any_of HT_.out (by kernel_rfl)) (fun _ _ _ h => h) (Or.inr ⟨by rfl, rfl⟩) ?_ ?_
      rotate_left
      · simp only [Act.put, List.setIfInBounds_toArray, List.set_cons_zero, List.set_cons_succ]
        rfl
      refine pure_ (i := 13) (N := some 66) (v := undef) (a' := ?_) #[true, true, true, true, true, true, true, true, true, true, true, true, true, true, false, false, false, false] rfl rfl (any_of HT_.out (by kernel_rfl)) (fun _ _ _ h => h) (Or.inr ⟨by rfl, rfl⟩) ?_ ?_
      rotate_left
      · simp only [Act.put, List.setIfInBounds_toArray, List.set_cons_zero, List.set_cons_succ]
        rfl
      refine pure_ (i := 14) (N := some 67) (v := undef) (a' := ?_) #[true, true, true, true, true, true, true, true, true, true, true, true, true, true, true, false, false, false] rfl rfl (any_of HT_.out (by kernel_rfl)) (fun _ _ _ h => h) (Or.inr ⟨by rfl, rfl⟩) ?_ ?_
      rotate_left
      · simp only [Act.put, List.setIfInBounds_toArray, List.set_cons_zero, List.set_cons_succ]
        rfl
      refine pure_ (i := 15) (N := some 68) (v := undef) (a' := ?_) #[true, true, true, true, true, true, true, true, true, true, true, true, true, true, true, true, false, false] rfl rfl (any_of HT_.out (by kernel_rfl)) (fun _ _ _ h => h) (Or.inr ⟨by rfl, rfl⟩) ?_ ?_
      rotate_left
      · simp only [Act.put, List.setIfInBounds_toArray, List.set_cons_zero, List.set_cons_succ]
        rfl
      refine pure_ (i := 16) (N := some 69) (v := ?_) (a' := ?_) #[true, true, true, true, true, true, true, true, true, true, true, true, true, true, true, true, true, false] rfl rfl (any_of HT_.out (by kernel_rfl)) (fun _ _ _ h => h) (Or.inl ⟨by rfl, ?_⟩) ?_ ?_
      rotate_left
      · intro w'
        go_simp
        with_reducible rfl
      rotate_left
      · simp only [Act.put, List.setIfInBounds_toArray, List.set_cons_zero, List.set_cons_succ]
        rfl
      refine pure_ (i := 17) (N := some 4) (v := ?_) (a' := ?_) #[true, true, true, true, true, true, true, true, true, true, true, true, true, true, true, true, true, true] rfl rfl (any_of HT_.out (by kernel_rfl)) (fun _ _ _ h => h) (Or.inl ⟨by rfl, ?_⟩) ?_ ?_
      rotate_left
      · intro w'
        go_simp
        with_reducible rfl
      rotate_left
      · simp only [Act.put, List.setIfInBounds_toArray, List.set_cons_zero, List.set_cons_succ]
        rfl
      refine done_ (done_of HT_.out (by kernel_rfl)) ?_
      clear HT_ hHeld
      go_wp2
      go_ret
      exact ⟨rfl, HB.out⟩
    | true =>
      have HE2 := Aside0.mk (show (encR y).2 = 0 by rw [encR_yes hyr])
      have HSTR := Aside0.mk (show ((strOfNums (encR x).1).toList == (strOfNums (encR y).1).toList) = sameB x y by
        rw [str_list, str_list, Bool.eq_iff_iff, beq_iff_eq, encR_yes hxr, encR_yes hyr, sameB, decide_eq_true_eq]
        exact ⟨fun h => (enc_inj (CelTy.wf HT.out.1) (CelTy.wf HT.out.2) hxr hyr).1 (map_u8_inj (Byt.encS HT.out.1.byt) (Byt.encS HT.out.2.byt) h), fun h => by rw [h]⟩)
      go_wp2_with (first
    | (go_at_call 13; (with_reducible refine (encode_any x A c _ (Kd.C_below HR.out HB.out) (CelTy.wf HT.out.1)).mono ?_); go_must (rintro e y7 ⟨⟨v7, rfl, ho⟩, hb⟩; obtain ⟨A7, k7, rfl, hcap7, hr7⟩ := Ow_slice ho; have HR7 := Aside0.mk hr7; clear ho hr7 hcap7; replace HXB := Aside0.mk ((hb.block _ (blk_lt HXB.out)).trans HXB.out); replace HYB := Aside0.mk ((hb.block _ (blk_lt HYB.out)).trans HYB.out); replace c0 := pw_cell_below hb c0; replace c1 := pw_cell_below hb c1; replace c2 := pw_cell_below hb c2; replace c3 := pw_cell_below hb c3; replace c4 := pw_cell_below hb c4; replace c5 := pw_cell_below hb c5; replace c6 := pw_cell_below hb c6; replace c7 := pw_cell_below hb c7; replace c8 := pw_cell_below hb c8; replace c9 := pw_cell_below hb c9; replace c10 := pw_cell_below hb c10; replace d0 := pw_cell_below hb d0; replace d1 := pw_cell_below hb d1; replace d2 := pw_cell_below hb d2; replace d3 := pw_cell_below hb d3; replace d4 := pw_cell_below hb d4; replace d5 := pw_cell_below hb d5; replace d6 := pw_cell_below hb d6; replace d7 := pw_cell_below hb d7; replace d8 := pw_cell_below hb d8; replace d9 := pw_cell_below hb d9; replace d10 := pw_cell_below hb d10; rw [HE1.out]; replace HB := Aside0.mk (HB.out.trans (hb.mono HB.out.size)); clear hb))
    | (go_at_call 13; (with_reducible refine (encode_any y B c' _ (Kd.C_below HR2.out HB.out) (CelTy.wf HT.out.2)).mono ?_); go_must (rintro e y8 ⟨⟨v8, rfl, ho⟩, hb⟩; obtain ⟨A8, k8, rfl, hcap8, hr8⟩ := Ow_slice ho; have HR8 := Aside0.mk hr8; replace HR7 := Aside0.mk (Kd.C_below HR7.out hb); clear ho hr8 hcap8; replace HXB := Aside0.mk ((hb.block _ (blk_lt HXB.out)).trans HXB.out); replace HYB := Aside0.mk ((hb.block _ (blk_lt HYB.out)).trans HYB.out); replace c0 := pw_cell_below hb c0; replace c1 := pw_cell_below hb c1; replace c2 := pw_cell_below hb c2; replace c3 := pw_cell_below hb c3; replace c4 := pw_cell_below hb c4; replace c5 := pw_cell_below hb c5; replace c6 := pw_cell_below hb c6; replace c7 := pw_cell_below hb c7; replace c8 := pw_cell_below hb c8; replace c9 := pw_cell_below hb c9; replace c10 := pw_cell_below hb c10; replace d0 := pw_cell_below hb d0; replace d1 := pw_cell_below hb d1; replace d2 := pw_cell_below hb d2; replace d3 := pw_cell_below hb d3; replace d4 := pw_cell_below hb d4; replace d5 := pw_cell_below hb d5; replace d6 := pw_cell_below hb d6; replace d7 := pw_cell_below hb d7; replace d8 := pw_cell_below hb d8; replace d9 := pw_cell_below hb d9; replace d10 := pw_cell_below hb d10; rw [HE2.out]; replace HB := Aside0.mk (HB.out.trans (hb.mono HB.out.size)); clear hb)))
      refine start_ (n := 18) (S := fun w' => w'.heap[w.heap.size]? = some (.cells (celA x A c) 27 (0, 0)) ∧ w'.heap[w.heap.size + 1]? = some (.cells (celA y B c') 27 (0, 0)) ∧ RdB w' A7 (encR x).1 ∧ RdB w' A8 (encR y).1) (ds := []) #[false, false, false, false, false, false, false, false, false, false, false, false, false, false, false, false, false, false] (by kernel_rfl) rfl rfl ⟨HXB.out, HYB.out, Kd.C_below HR7.out (below_drew (Below.refl _ _)), Kd.C_below HR8.out (below_drew (Below.refl _ _))⟩ (fun hHeld => ?_); refine with_tab tabS9_ok (fun HT_ => ?_)
      have hb : Below y8.heap.size y8 y8.drew := below_drew (Below.refl _ _)
      replace HR7 := Aside0.mk (Kd.C_below HR7.out hb)
      replace HR8 := Aside0.mk (Kd.C_below HR8.out hb)
      replace HB := Aside0.mk (HB.out.trans (hb.mono HB.out.size))
      clear hb
      refine pure_ (i := 0) (N := some 53) (v := ?_) (a' := ?_) #[true, false, false, false, false, false, false, false, false, false, false, false, false, false, false, false, false, false] rfl rfl (any_of HT_.out (by kernel_rfl)) (fun _ _ _ h => h) (Or.inl ⟨by rfl, ?_⟩) ?_ ?_
      rotate_left
      · intro w'
        go_simp
        with_reducible rfl
      rotate_left
      · simp only [Act.put, List.setIfInBounds_toArray, List.set_cons_zero, List.set_cons_succ]
        rfl
      refine pure_ (i := 1) (N := some 54) (v := ?_) (a' := ?_) #[true, true, false, false, false, false, false, false, false, false, false, false, false, false, false, false, false, false] rfl rfl (any_of HT_.out (by kernel_rfl)) (fun _ _ _ h => h) (Or.inl ⟨by rfl, ?_⟩) ?_ ?_
      rotate_left
      · intro w'
        go_simp
        with_reducible rfl
      rotate_left
      · simp only [Act.put, List.setIfInBounds_toArray, List.set_cons_zero, List.set_cons_succ]
        rfl
      refine pure_ (i := 2) (N := some 55) (v := ?_) (a' := ?_) #[true, true, true, false, false, false, false, false, false, false, false, false, false, false, false, false, false, false] rfl rfl (any_of HT_.out (by kernel_rfl)) (fun _ _ _ h => h) (Or.inl ⟨by rfl, ?_⟩) ?_ ?_
      rotate_left
      · intro w'
        go_simp
        with_reducible rfl
      rotate_left
      · simp only [Act.put, List.setIfInBounds_toArray, List.set_cons_zero, List.set_cons_succ]
        rfl
      refine pure_ (i := 3) (N := some 56) (v := ?_) (a' := ?_) #[true, true, true, true, false, false, false, false, false, false, false, false, false, false, false, false, false, false] rfl rfl (any_of HT_.out (by kernel_rfl)) (fun _ _ _ h => h) (Or.inl ⟨by rfl, ?_⟩) ?_ ?_
      rotate_left
      · intro w'
        go_simp
        with_reducible rfl
      rotate_left
      · simp only [Act.put, List.setIfInBounds_toArray, List.set_cons_zero, List.set_cons_succ]
        rfl
      refine pure_ (i := 4) (N := some 57) (v := ?_) (a' := ?_) #[true, true, true, true, true, false, false, false, false, false, false, false, false, false, false, false, false, false] rfl rfl (any_of HT_.out (by kernel_rfl)) (fun _ _ _ h => h) (Or.inl ⟨by rfl, ?_⟩) ?_ ?_
      rotate_left
      · intro w'
        go_simp
        with_reducible rfl
      rotate_left
      · simp only [Act.put, List.setIfInBounds_toArray, List.set_cons_zero, List.set_cons_succ]
        rfl
      refine pure_ (i := 5) (N := some 58) (v := ?_) (a' := ?_) #[true, true, true, true, true, true, false, false, false, false, false, false, false, false, false, false, false, false] rfl rfl (any_of HT_.out (by kernel_rfl)) (fun _ _ _ h => h) (Or.inl ⟨by rfl, ?_⟩) ?_ ?_
      rotate_left
      · intro w'
        go_simp
        with_reducible rfl
      rotate_left
      · simp only [Act.put, List.setIfInBounds_toArray, List.set_cons_zero, List.set_cons_succ]
        rfl
      refine pure_ (i := 6) (N := some 59) (v := ?_) (a' := ?_) #[true, true, true, true, true, true, true, false, false, false, false, false, false, false, false, false, false, false] rfl rfl (any_of HT_.out (by kernel_rfl)) (fun _ _ _ h => h) (Or.inl ⟨by rfl, ?_⟩) ?_ ?_
      rotate_left
      · intro w'
        go_simp
        with_reducible rfl
      rotate_left
      · simp only [Act.put, List.setIfInBounds_toArray, List.set_cons_zero, List.set_cons_succ]
        rfl
      refine pure_ (i := 7) (N := some 60) (v := ?_) (a' := ?_) #[true, true, true, true, true, true, true, true, false, false, false, false, false, false, false, false, false, false] rfl rfl (any_of HT_.out (by kernel_rfl)) (fun _ _ _ h => h) (Or.inl ⟨by rfl, ?_⟩) ?_ ?_
      rotate_left
      · intro w'
        go_simp
        with_reducible rfl
      rotate_left
      · simp only [Act.put, List.setIfInBounds_toArray, List.set_cons_zero, List.set_cons_succ]
        rfl
      refine take_ (i := 8) (N := some 61) (v := ?_) (a' := ?_) #[true, true, true, true, true, true, true, true, true, false, false, false, false, false, false, false, false, false] rfl rfl (take_of HT_.out (by kernel_rfl)) (fun _ _ _ h => h) (Or.inl ⟨by rfl, ?_⟩) hHeld ?_ ?_
      rotate_left
      · intro w' hw'
        obtain ⟨_, _, s2, s3⟩ := hw'; have hs := Kd.C_string (P := Try.prog) (c := k7) Try.underlying25 Try.underlying5 Try.underlying9 s2
        go_simp
        with_reducible rfl
      rotate_left
      · simp only [Act.put, List.setIfInBounds_toArray, List.set_cons_zero, List.set_cons_succ]
        rfl
      refine pure_ (i := 9) (N := some 62) (v := ?_) (a' := ?_) #[true, true, true, true, true, true, true, true, true, true, false, false, false, false, false, false, false, false] rfl rfl (any_of HT_.out (by kernel_rfl)) (fun _ _ _ h => h) (Or.inl ⟨by rfl, ?_⟩) ?_ ?_
      rotate_left
      · intro w'
        go_simp
        with_reducible rfl
      rotate_left
      · simp only [Act.put, List.setIfInBounds_toArray, List.set_cons_zero, List.set_cons_succ]
        rfl
      refine take_ (i := 10) (N := some 63) (v := ?_) (a' := ?_) #[true, true, true, true, true, true, true, true, true, true, true, false, false, false, false, false, false, false] rfl rfl (take_of HT_.out (by kernel_rfl)) (fun _ _ _ h => h) (Or.inl ⟨by rfl, ?_⟩) hHeld ?_ ?_
      rotate_left
      · intro w' hw'
        obtain ⟨_, _, s2, s3⟩ := hw'; have hs := Kd.C_string (P := Try.prog) (c := k8) Try.underlying25 Try.underlying5 Try.underlying9 s3
        go_simp
        with_reducible rfl
      rotate_left
      · simp only [Act.put, List.setIfInBounds_toArray, List.set_cons_zero, List.set_cons_succ]
        rfl
      refine pure_ (i := 11) (N := some 64) (v := (.bool (sameB x y))) (a' := ?_) #[true, true, true, true, true, true, true, true, true, true, true, true, false, false, false, false, false, false] rfl rfl (any_of HT_.out (by kernel_rfl)) (fun _ _ _ h => h) (Or.inl ⟨by rfl, ?_⟩) ?_ ?_
      · intro w'
        go_simp
        rw [HSTR.out]; first | done | rfl | trace_state
      rotate_left
      · simp only [Act.put, List.setIfInBounds_toArray, List.set_cons_zero, List.set_cons_succ]
        rfl
      refine take_ (i := 12) (N := some 65) (v := ?_) (a' := ?_) #[true, true, true, true, true, true, true, true, true, true, true, true, true, false, false, false, false, false] rfl rfl (take_of HT_.out (by kernel_rfl)) (fun _ _ _ h => h) (Or.inl ⟨by rfl, ?_⟩) hHeld ?_ ?_
      rotate_left
      · intro w' hw'
        obtain ⟨s0, s1, _, _⟩ := hw'; obtain ⟨c0, c1, c2, c3, c4, c5, c6, c7, c8, c9⟩ := cel_at (x := x) (A := A) (c := c) s0; have c10 : w'.cell? ⟨w.heap.size, 10, none⟩ = some (.slice A x.body.length c) := blk_cell s0 10
        go_simp
        with_reducible rfl
      rotate_left
      · simp only [Act.put, List.setIfInBounds_toArray, List.set_cons_zero, List.set_cons_succ]
        rfl
      refine take_ (i := 13) (N := some 66) (v := ?_) (a' := ?_) #[true, true, true, true, true, true, true, true, true, true, true, true, true, true, false, false, false, false] rfl rfl (take_of HT_.out (by kernel_rfl)) (fun _ _ _ h => h) (Or.inl ⟨by rfl, ?_⟩) hHeld ?_ ?_
      rotate_left
      · intro w' hw'
        obtain ⟨s0, s1, _, _⟩ := hw'; obtain ⟨c0, c1, c2, c3, c4, c5, c6, c7, c8, c9⟩ := cel_at (x := y) (A := B) (c := c') s1; have c10 : w'.cell? ⟨(w.heap.size + 1), 10, none⟩ = some (.slice B y.body.length c') := blk_cell s1 10
        go_simp
        with_reducible rfl
      rotate_left
      · simp only [Act.put, List.setIfInBounds_toArray, List.set_cons_zero, List.set_cons_succ]
        rfl
      refine one_ (i := 14) (N := some 67) #[true, true, true, true, true, true, true, true, true, true, true, true, true, true, true, false, false, false] rfl rfl (one_of HT_.out (by kernel_rfl)) (by decide) (fun Kq_ hK_ => ?_)
      refine goes_ Try.func16 (by kernel_rfl) rfl #[.agg (celA x A c), .agg (celA y B c')] (by rfl) rfl rfl (by (try simp only [List.map_toArray, List.map_cons, List.map_nil]); first | done | rfl) ?_
      with_reducible refine (same_any x y A B c c' _ (Kd.C_below HR.out HB.out) (Kd.C_below HR2.out HB.out) HT.out.1.byt HT.out.2.byt).mono ?_
      rintro e w' ⟨rfl, hb⟩
      refine ⟨_, rfl, ?_⟩
      replace HR7 := Aside0.mk (Kd.C_below HR7.out hb)
      replace HR8 := Aside0.mk (Kd.C_below HR8.out hb)
      replace HXB := Aside0.mk ((hb.block _ (blk_lt HXB.out)).trans HXB.out)
      replace HYB := Aside0.mk ((hb.block _ (blk_lt HYB.out)).trans HYB.out)
      replace HB := Aside0.mk (HB.out.trans (hb.mono HB.out.size))
      clear hb
      refine hK_.out _ _ ⟨HXB.out, HYB.out, HR7.out, HR8.out⟩ (fun hHeld => ?_)
      clear hK_ Kq_
      refine norm_ (a' := ?_) ?_ ?_
      rotate_left
      · show Act.put _ (some 67) _ = _
        simp only [Act.put, List.setIfInBounds_toArray, List.set_cons_zero, List.set_cons_succ]
        rfl
      refine pure_ (i := 15) (N := some 68) (v := (.bool true)) (a' := ?_) #[true, true, true, true, true, true, true, true, true, true, true, true, true, true, true, true, false, false] rfl rfl (any_of HT_.out (by kernel_rfl)) (fun _ _ _ h => h) (Or.inl ⟨by rfl, ?_⟩) ?_ ?_
      · intro w'
        go_simp
        first | done | rfl | (simp; done) | trace_state
      rotate_left
      · simp only [Act.put, List.setIfInBounds_toArray, List.set_cons_zero, List.set_cons_succ]
        rfl
      refine pure_ (i := 16) (N := some 69) (v := ?_) (a' := ?_) #[true, true, true, true, true, true, true, true, true, true, true, true, true, true, true, true, true, false] rfl rfl (any_of HT_.out (by kernel_rfl)) (fun _ _ _ h => h) (Or.inl ⟨by rfl, ?_⟩) ?_ ?_
      rotate_left
      · intro w'
        go_simp
        with_reducible rfl
      rotate_left
      · simp only [Act.put, List.setIfInBounds_toArray, List.set_cons_zero, List.set_cons_succ]
        rfl
      refine pure_ (i := 17) (N := some 4) (v := ?_) (a' := ?_) #[true, true, true, true, true, true, true, true, true, true, true, true, true, true, true, true, true, true] rfl rfl (any_of HT_.out (by kernel_rfl)) (fun _ _ _ h => h) (Or.inl ⟨by rfl, ?_⟩) ?_ ?_
      rotate_left
      · intro w'
        go_simp
        with_reducible rfl
      rotate_left
      · simp only [Act.put, List.setIfInBounds_toArray, List.set_cons_zero, List.set_cons_succ]
        rfl
      refine done_ (done_of HT_.out (by kernel_rfl)) ?_
      clear HT_ hHeld
      go_wp2
      go_ret
      exact ⟨rfl, HB.out⟩
end Go.Proofs.Ytbbnjcpeikklgaa.Cell
