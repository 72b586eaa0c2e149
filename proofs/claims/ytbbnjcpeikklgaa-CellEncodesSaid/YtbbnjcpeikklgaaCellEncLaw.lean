/- CellEncodes answers true for every cell. No conditions. -/
import Derived.Test.YtbbnjcpeikklgaaCellRefAny
import Derived.Test.YtbbnjcpeikklgaaCellRefEnc
import Derived.Test.YtbbnjcpeikklgaaCellSameLaw
namespace Go.Proofs.Ytbbnjcpeikklgaa.Cell
open Go.RowKit Go.Proofs.YtbbnjcpeikklgaaW.PrintWords Go.Proofs.YtbbnjcpeikklgaaW.PrintLast Go.Proofs.YtbbnjcpeikklgaaW.PrintMore Go.Proofs.Ytbbnjcpeikklgaa.Kit Go.Proofs.Ytbbnjcpeikklgaa.Plain Go.Proofs.Ytbbnjcpeikklgaa.Wire
set_option linter.unusedVariables false
set_option linter.unusedSimpArgs false
def tabN8 : Bool × List (List Nat × List Nat) := (true, [([], []), ([0], [0]), ([1], [1]), ([2], [2]), ([3, 2], [2, 3]), ([2], [2]), ([5, 2, 2], [2, 5]), ([6, 2], [2, 6]), ([4, 7, 2], [2, 4, 7]), ([2, 8], [2, 8]), ([9, 6, 0, 1, 2, 3, 4, 5, 6, 7, 8, 9], [9])])
theorem tabN8_ok : rtab .any (opsOf Try.f3 8) = tabN8 := by kernel_rfl
set_option maxHeartbeats 3200000 in
set_option maxRecDepth 100000 in
theorem encodes_law (cs : Array Value) (x : Cel) (w : World) (hx : CelD.K w x cs.toList) (ht : CelTy x) :
    Calls Try.prog 3 #[.agg cs] w fun e w' => e = .returned (.bool true) ∧ Below w.heap.size w w' := by
  obtain ⟨A, c, rfl, hc, hr⟩ := cel_open hx
  have hmx := C_max hr
  have HR := Aside0.mk hr
  have HT := Aside0.mk ht
  clear hx hr ht hc
  by_cases hlen : 100 < x.body.length
  · have g0 : decide (100 < (x.body.length : Int)) = true := decide_eq_true (by omega)
    go_enter Try.func3, Try.ntmps3
    go_wp2_with (go_at_call 12; go_must (refine (awake_any _).mono ?_; rintro e w1 ⟨rfl, hb⟩; have hxb : w1.heap[w.heap.size]? = some (.cells (celA x A c) 27 (0, 0)) := (hb.block _ (by simp)).trans (blk_new w _); have HXB := Aside0.mk hxb; obtain ⟨c0, c1, c2, c3, c4, c5, c6, c7, c8, c9⟩ := cel_at (x := x) (A := A) (c := c) hxb; have c10 : w1.cell? ⟨w.heap.size, 10, none⟩ = some (.slice A x.body.length c) := blk_cell hxb 10; have HB := Aside0.mk ((below_alloc (Below.refl w.heap.size w) (.cells (celA x A c) 27)).trans (hb.mono (by simp))); clear hb hxb))
    go_ret
    exact ⟨rfl, HB.out⟩
  have g0 : decide (100 < (x.body.length : Int)) = false := decide_eq_false (by omega)
  clear hlen
  cases hrx : rightB x with
  | false =>
    go_enter Try.func3, Try.ntmps3
    go_wp2_with (first
      | (go_at_call 12; go_must (refine (awake_any _).mono ?_; rintro e w1 ⟨rfl, hb⟩; have hxb : w1.heap[w.heap.size]? = some (.cells (celA x A c) 27 (0, 0)) := (hb.block _ (by simp)).trans (blk_new w _); have HXB := Aside0.mk hxb; obtain ⟨c0, c1, c2, c3, c4, c5, c6, c7, c8, c9⟩ := cel_at (x := x) (A := A) (c := c) hxb; have c10 : w1.cell? ⟨w.heap.size, 10, none⟩ = some (.slice A x.body.length c) := blk_cell hxb 10; have HB := Aside0.mk ((below_alloc (Below.refl w.heap.size w) (.cells (celA x A c) 27)).trans (hb.mono (by simp))); clear hb hxb))
      | (go_at_call 13; go_must (refine (encode_no x A c _ (Kd.C_below HR.out HB.out) HT.out.byt hrx).mono ?_; rintro e y7 ⟨rfl, hb⟩; replace c0 := pw_cell_below hb c0; replace c1 := pw_cell_below hb c1; replace c2 := pw_cell_below hb c2; replace c3 := pw_cell_below hb c3; replace c4 := pw_cell_below hb c4; replace c5 := pw_cell_below hb c5; replace c6 := pw_cell_below hb c6; replace c7 := pw_cell_below hb c7; replace c8 := pw_cell_below hb c8; replace c9 := pw_cell_below hb c9; replace c10 := pw_cell_below hb c10; replace HB := Aside0.mk (HB.out.trans (hb.mono HB.out.size)); clear hb))
      | (go_at_call 14; go_must (refine (refright_any x A c _ (Kd.C_below HR.out HB.out) HT.out.byt).mono ?_; rintro e y8 ⟨rfl, hb⟩; rw [hrx]; replace HB := Aside0.mk (HB.out.trans (hb.mono HB.out.size)); clear hb)))
    go_ret
    exact ⟨rfl, HB.out⟩
  | true =>
    have HX := Aside0.mk hrx
    go_enter Try.func3, Try.ntmps3
    go_upto_region 8 with (first
      | (go_at_call 12; go_must (refine (awake_any _).mono ?_; rintro e w1 ⟨rfl, hb⟩; have hxb : w1.heap[w.heap.size]? = some (.cells (celA x A c) 27 (0, 0)) := (hb.block _ (by simp)).trans (blk_new w _); have HXB := Aside0.mk hxb; obtain ⟨c0, c1, c2, c3, c4, c5, c6, c7, c8, c9⟩ := cel_at (x := x) (A := A) (c := c) hxb; have c10 : w1.cell? ⟨w.heap.size, 10, none⟩ = some (.slice A x.body.length c) := blk_cell hxb 10; have HB := Aside0.mk ((below_alloc (Below.refl w.heap.size w) (.cells (celA x A c) 27)).trans (hb.mono (by simp))); clear hb hxb))
      | (go_at_call 13; go_must (refine (encode_yes x A c _ (Kd.C_below HR.out HB.out) HT.out.wf HX.out).mono ?_; rintro e y7 ⟨⟨v7, rfl, ho⟩, hb⟩; obtain ⟨A7, k7, rfl, hk7, hr7⟩ := Ow_slice ho; have HR7 := Aside0.mk hr7; replace HXB := Aside0.mk ((hb.block _ (blk_lt HXB.out)).trans HXB.out); replace c0 := pw_cell_below hb c0; replace c1 := pw_cell_below hb c1; replace c2 := pw_cell_below hb c2; replace c3 := pw_cell_below hb c3; replace c4 := pw_cell_below hb c4; replace c5 := pw_cell_below hb c5; replace c6 := pw_cell_below hb c6; replace c7 := pw_cell_below hb c7; replace c8 := pw_cell_below hb c8; replace c9 := pw_cell_below hb c9; replace c10 := pw_cell_below hb c10; replace HB := Aside0.mk (HB.out.trans (hb.mono HB.out.size)); clear hb ho hk7 hr7))
      | (go_at_call 14; go_must (refine (refright_any x A c _ (Kd.C_below HR.out HB.out) HT.out.byt).mono ?_; rintro e y8 ⟨rfl, hb⟩; rw [hrx]; replace HR7 := Aside0.mk (Kd.C_below HR7.out hb); replace HXB := Aside0.mk ((hb.block _ (blk_lt HXB.out)).trans HXB.out); replace HB := Aside0.mk (HB.out.trans (hb.mono HB.out.size)); clear hb)))
    clear c0 c1 c2 c3 c4 c5 c6 c7 c8 c9 c10
    go_wp2_with (fail)
    refine start_ (n := 11) (S := fun w' => w'.heap[w.heap.size]? = some (.cells (celA x A c) 27 (0, 0)) ∧ RdB w' A7 (encS x)) (ds := []) #[false, false, false, false, false, false, false, false, false, false, false] (by kernel_rfl) rfl rfl ⟨show y8.drew.heap[w.heap.size]? = _ from HXB.out, Kd.C_below HR7.out (below_drew (Below.refl _ _))⟩ (fun hHeld => ?_); refine with_tab tabN8_ok (fun HT_ => ?_)
    have hb : Below y8.heap.size y8 y8.drew := below_drew (Below.refl _ _)
    replace HR7 := Aside0.mk (Kd.C_below HR7.out hb)
    replace HXB := Aside0.mk ((hb.block _ (blk_lt HXB.out)).trans HXB.out)
    replace HB := Aside0.mk (HB.out.trans (hb.mono HB.out.size))
    clear hb
    refine pure_ (i := 0) (N := some 26) (v := ?_) (a' := ?_) #[true, false, false, false, false, false, false, false, false, false, false] rfl rfl (any_of HT_.out (by kernel_rfl)) (fun _ _ _ h => h) (Or.inl ⟨by rfl, ?_⟩) ?_ ?_
    rotate_left
    · intro w'
      go_simp
      with_reducible rfl
    rotate_left
    · simp only [Act.put, List.setIfInBounds_toArray, List.set_cons_zero, List.set_cons_succ]
      rfl
    refine pure_ (i := 1) (N := some 27) (v := ?_) (a' := ?_) #[true, true, false, false, false, false, false, false, false, false, false] rfl rfl (any_of HT_.out (by kernel_rfl)) (fun _ _ _ h => h) (Or.inl ⟨by rfl, ?_⟩) ?_ ?_
    rotate_left
    · intro w'
      go_simp
      with_reducible rfl
    rotate_left
    · simp only [Act.put, List.setIfInBounds_toArray, List.set_cons_zero, List.set_cons_succ]
      rfl
    refine pure_ (i := 2) (N := some 28) (v := ?_) (a' := ?_) #[true, true, true, false, false, false, false, false, false, false, false] rfl rfl (any_of HT_.out (by kernel_rfl)) (fun _ _ _ h => h) (Or.inl ⟨by rfl, ?_⟩) ?_ ?_
    rotate_left
    · intro w'
      go_simp
      with_reducible rfl
    rotate_left
    · simp only [Act.put, List.setIfInBounds_toArray, List.set_cons_zero, List.set_cons_succ]
      rfl
    refine pure_ (i := 3) (N := some 29) (v := ?_) (a' := ?_) #[true, true, true, true, false, false, false, false, false, false, false] rfl rfl (any_of HT_.out (by kernel_rfl)) (fun _ _ _ h => h) (Or.inl ⟨by rfl, ?_⟩) ?_ ?_
    rotate_left
    · intro w'
      go_simp
      with_reducible rfl
    rotate_left
    · simp only [Act.put, List.setIfInBounds_toArray, List.set_cons_zero, List.set_cons_succ]
      rfl
    refine take_ (i := 4) (N := some 30) (v := ?_) (a' := ?_) #[true, true, true, true, true, false, false, false, false, false, false] rfl rfl (take_of HT_.out (by kernel_rfl)) (fun _ _ _ h => h) (Or.inl ⟨by rfl, ?_⟩) hHeld ?_ ?_
    rotate_left
    · intro w' hw'
      obtain ⟨s0, s1⟩ := hw'; have hs := Kd.C_string (P := Try.prog) (c := k7) Try.underlying25 Try.underlying5 Try.underlying9 s1
      go_simp
      with_reducible rfl
    rotate_left
    · simp only [Act.put, List.setIfInBounds_toArray, List.set_cons_zero, List.set_cons_succ]
      rfl
    refine take_ (i := 5) (N := some 31) (v := ?_) (a' := ?_) #[true, true, true, true, true, true, false, false, false, false, false] rfl rfl (take_of HT_.out (by kernel_rfl)) (fun _ _ _ h => h) (Or.inl ⟨by rfl, ?_⟩) hHeld ?_ ?_
    rotate_left
    · intro w' hw'
      obtain ⟨s0, s1⟩ := hw'; obtain ⟨c0, c1, c2, c3, c4, c5, c6, c7, c8, c9⟩ := cel_at (x := x) (A := A) (c := c) s0; have c10 : w'.cell? ⟨w.heap.size, 10, none⟩ = some (.slice A x.body.length c) := blk_cell s0 10
      go_simp
      with_reducible rfl
    rotate_left
    · simp only [Act.put, List.setIfInBounds_toArray, List.set_cons_zero, List.set_cons_succ]
      rfl
    refine one_ (i := 6) (N := some 32) #[true, true, true, true, true, true, true, false, false, false, false] rfl rfl (one_of HT_.out (by kernel_rfl)) (by decide) (fun Kq_ hK_ => ?_)
    refine goes_ Try.func15 (by kernel_rfl) rfl #[.agg (celA x A c)] (by rfl) rfl rfl (by (try simp only [List.map_toArray, List.map_cons, List.map_nil]); first | done | rfl) ?_
    with_reducible refine (refencode_any x A c _ (Kd.C_below HR.out HB.out) HT.out.wf HX.out).mono ?_
    rintro e w' ⟨⟨v9, rfl, ho⟩, hb⟩
    refine ⟨_, rfl, ?_⟩
    obtain ⟨A9, k9, rfl, hk9, hr9⟩ := Ow_slice ho
    have HR9 := Aside0.mk hr9
    replace HR7 := Aside0.mk (Kd.C_below HR7.out hb)
    replace HXB := Aside0.mk ((hb.block _ (blk_lt HXB.out)).trans HXB.out)
    replace HB := Aside0.mk (HB.out.trans (hb.mono HB.out.size))
    clear ho hb hk9 hr9
    refine hK_.out _ _ ⟨HXB.out, HR7.out⟩ (fun hHeld => ?_)
    clear hK_ Kq_
    refine norm_ (a' := ?_) ?_ ?_
    rotate_left
    · show Act.put _ (some 32) _ = _
      simp only [Act.put, List.setIfInBounds_toArray, List.set_cons_zero, List.set_cons_succ]
      rfl
    refine one_ (i := 7) (N := some 33) #[true, true, true, true, true, true, true, true, false, false, false] rfl rfl (one_of HT_.out (by kernel_rfl)) (by decide) (fun Kq_ hK_ => ?_)
    have hs := Kd.C_string (P := Try.prog) (c := k9) Try.underlying25 Try.underlying5 Try.underlying9 HR9.out
    refine value_ (w1 := ?_) (v := ?_) (by rfl) rfl ?_ ?_
    rotate_left 2
    · go_simp
      constructor
      · rfl
      · rfl
    refine hK_.out _ _ ⟨HXB.out, HR7.out⟩ (fun hHeld => ?_)
    clear hK_ Kq_
    refine norm_ (a' := ?_) ?_ ?_
    rotate_left
    · show Act.put _ (some 33) _ = _
      simp only [Act.put, List.setIfInBounds_toArray, List.set_cons_zero, List.set_cons_succ]
      rfl
    refine pure_ (i := 8) (N := some 34) (v := (.bool true)) (a' := ?_) #[true, true, true, true, true, true, true, true, true, false, false] rfl rfl (any_of HT_.out (by kernel_rfl)) (fun _ _ _ h => h) (Or.inl ⟨by rfl, ?_⟩) ?_ ?_
    · intro w'
      go_simp
      first | done | rfl | (simp; done) | trace_state
    rotate_left
    · simp only [Act.put, List.setIfInBounds_toArray, List.set_cons_zero, List.set_cons_succ]
      rfl
    refine pure_ (i := 9) (N := some 35) (v := ?_) (a' := ?_) #[true, true, true, true, true, true, true, true, true, true, false] rfl rfl (any_of HT_.out (by kernel_rfl)) (fun _ _ _ h => h) (Or.inl ⟨by rfl, ?_⟩) ?_ ?_
    rotate_left
    · intro w'
      go_simp
      with_reducible rfl
    rotate_left
    · simp only [Act.put, List.setIfInBounds_toArray, List.set_cons_zero, List.set_cons_succ]
      rfl
    refine pure_ (i := 10) (N := some 2) (v := ?_) (a' := ?_) #[true, true, true, true, true, true, true, true, true, true, true] rfl rfl (any_of HT_.out (by kernel_rfl)) (fun _ _ _ h => h) (Or.inl ⟨by rfl, ?_⟩) ?_ ?_
    rotate_left
    · intro w'
      go_simp
      with_reducible rfl
    rotate_left
    · simp only [Act.put, List.setIfInBounds_toArray, List.set_cons_zero, List.set_cons_succ]
      rfl
    refine done_ (done_of HT_.out (by kernel_rfl)) ?_
    clear HT_ hHeld
    go_wp2
    go_ret
    exact ⟨rfl, HB.out⟩
end Go.Proofs.Ytbbnjcpeikklgaa.Cell
