/- ProofChecks answers true for everything found and all moments. No conditions. -/
import Derived.Test.YtoojmbifkjocfaaRef
import Derived.Test.YtoojmbifkjocfaaPlain53
namespace Go.Proofs.Ytoojmbifkjocfaa.Proof
open Go.RowKit Go.Proofs.YtoojmbifkjocfaaW.PrintWords Go.Proofs.YtoojmbifkjocfaaW.PrintLast Go.Proofs.YtoojmbifkjocfaaW.PrintMore Go.Proofs.Ytoojmbifkjocfaa.Kit Go.Proofs.Ytoojmbifkjocfaa.Plain
set_option linter.unusedVariables false
set_option linter.unusedSimpArgs false
def tabQ5 : Bool × List (List Nat × List Nat) := (true, [([], []), ([], []), ([0, 1], [0, 1]), ([], []), ([3, 2], [3]), ([], []), ([4, 5, 4], [4, 5]), ([2, 6], [2, 6]), ([7, 6, 0, 1, 2, 3, 4, 5, 6, 7], [7])])
theorem tabQ5_ok : rtab .any (opsOf Try.f3 5) = tabQ5 := by kernel_rfl
set_option maxHeartbeats 1600000 in
set_option maxRecDepth 100000 in
theorem checks_any (cs : Array Value) (y : Int × Bool × List (Int × Bool)) (A : Option Addr) (n c : Nat) (ms : List Int) (w : World) (hy : FdK.K w y cs.toList) (hr : RdM w A n ms)
    (hm : (Lit.int .u64 y.1).wf = true) (hL : ∀ p ∈ y.2.2, (Lit.int .u64 p.1).wf = true) (hms : ∀ x ∈ ms, (Lit.int .u64 x).wf = true) :
    Calls Try.prog 3 #[.agg cs, .slice A n c] w fun e w' => e = .returned (.bool true) ∧ Below w.heap.size w w' := by
  obtain ⟨m, ok, L⟩ := y
  obtain ⟨A4, c4, rfl, hc4, hr4⟩ := found_open hy
  simp only at hc4 hr4 hm hL
  obtain rfl := C_len hr
  have HWF := Aside0.mk (And.intro hm (And.intro hL hms))
  have hmx := C_max hr
  have hmx4 := C_max hr4
  have HR := Aside0.mk hr
  have HR4 := Aside0.mk hr4
  clear hy hr hr4 hm hL hms
  by_cases h0 : 40 < L.length
  · have g0 : decide (40 < (L.length : Int)) = true := decide_eq_true (by omega)
    go_enter Try.func3, Try.ntmps3
    go_wp2_with (go_at_call 10; go_must (refine (awake_any _).mono ?_; rintro e w1 ⟨rfl, hb⟩; have HK := Aside0.mk (show w1.heap[w.heap.size]? = some (foundObj m ok (.slice A4 L.length c4)) from (hb.block _ (by simp; try omega)).trans (blk_new w _)); have HB := Aside0.mk (one_new hb); (try clear x0 x1 x2); obtain ⟨x0, x1, x2⟩ := found_cells HK.out; clear hb))
    go_ret
    exact ⟨rfl, HB.out⟩
  have g0 : decide (40 < (L.length : Int)) = false := decide_eq_false (by omega)
  by_cases h1 : 40 < ms.length
  · have g1 : decide (40 < (ms.length : Int)) = true := decide_eq_true (by omega)
    go_enter Try.func3, Try.ntmps3
    go_wp2_with (go_at_call 10; go_must (refine (awake_any _).mono ?_; rintro e w1 ⟨rfl, hb⟩; have HK := Aside0.mk (show w1.heap[w.heap.size]? = some (foundObj m ok (.slice A4 L.length c4)) from (hb.block _ (by simp; try omega)).trans (blk_new w _)); have HB := Aside0.mk (one_new hb); (try clear x0 x1 x2); obtain ⟨x0, x1, x2⟩ := found_cells HK.out; clear hb))
    go_ret
    exact ⟨rfl, HB.out⟩
  have g1 : decide (40 < (ms.length : Int)) = false := decide_eq_false (by omega)
  go_enter Try.func3, Try.ntmps3
  go_wp2_with (go_at_call 10; go_must (refine (awake_any _).mono ?_; rintro e w1 ⟨rfl, hb⟩; have HK := Aside0.mk (show w1.heap[w.heap.size]? = some (foundObj m ok (.slice A4 L.length c4)) from (hb.block _ (by simp; try omega)).trans (blk_new w _)); have HB := Aside0.mk (one_new hb); (try clear x0 x1 x2); obtain ⟨x0, x1, x2⟩ := found_cells HK.out; clear hb))
  replace HR := Aside0.mk (Kd.C_below HR.out HB.out)
  replace HR4 := Aside0.mk (Kd.C_below HR4.out HB.out)
  have HX0 := Aside0.mk x0
  have HX1 := Aside0.mk x1
  have HX2 := Aside0.mk x2
  have HV := Aside0.mk (Below.refl w1.heap.size w1)
  clear x0 x1 x2
  refine start_ (n := 9) (S := fun w' => w'.cell? ⟨w.heap.size, 0, none⟩ = some (.int .u64 m) ∧ w'.cell? ⟨w.heap.size, 1, none⟩ = some (.bool ok) ∧ w'.cell? ⟨w.heap.size, 2, none⟩ = some (.slice A4 L.length c4)) (ds := []) #[false, false, false, false, false, false, false, false, false] (by kernel_rfl) rfl rfl ⟨pw_cell_below (below_drew HV.out) HX0.out, pw_cell_below (below_drew HV.out) HX1.out, pw_cell_below (below_drew HV.out) HX2.out⟩ (fun hHeld => ?_); refine with_tab tabQ5_ok (fun HT_ => ?_)
  have hb : Below w1.heap.size w1 w1.drew := below_drew (Below.refl _ _)
  replace HV := Aside0.mk (HV.out.trans (hb.mono HV.out.size))
  clear hb
  refine take_ (i := 0) (N := some 16) (v := ?_) (a' := ?_) #[true, false, false, false, false, false, false, false, false] rfl rfl (take_of HT_.out (by kernel_rfl)) (fun _ _ _ h => h) (Or.inl ⟨by rfl, ?_⟩) hHeld ?_ ?_
  rotate_left
  · intro w' hw'
    obtain ⟨s0, s1, s2⟩ := hw'
    go_simp
    with_reducible rfl
  rotate_left
  · simp only [Act.put, List.setIfInBounds_toArray, List.set_cons_zero, List.set_cons_succ]
    rfl
  refine pure_ (i := 1) (N := some 17) (v := ?_) (a' := ?_) #[true, true, false, false, false, false, false, false, false] rfl rfl (any_of HT_.out (by kernel_rfl)) (fun _ _ _ h => h) (Or.inl ⟨by rfl, ?_⟩) ?_ ?_
  rotate_left
  · intro w'
    go_simp
    with_reducible rfl
  rotate_left
  · simp only [Act.put, List.setIfInBounds_toArray, List.set_cons_zero, List.set_cons_succ]
    rfl
  refine take_ (i := 3) (N := some 19) (v := ?_) (a' := ?_) #[true, true, false, true, false, false, false, false, false] rfl rfl (take_of HT_.out (by kernel_rfl)) (fun _ _ _ h => h) (Or.inl ⟨by rfl, ?_⟩) hHeld ?_ ?_
  rotate_left
  · intro w' hw'
    obtain ⟨s0, s1, s2⟩ := hw'
    go_simp
    with_reducible rfl
  rotate_left
  · simp only [Act.put, List.setIfInBounds_toArray, List.set_cons_zero, List.set_cons_succ]
    rfl
  refine pure_ (i := 5) (N := some 21) (v := ?_) (a' := ?_) #[true, true, false, true, false, true, false, false, false] rfl rfl (any_of HT_.out (by kernel_rfl)) (fun _ _ _ h => h) (Or.inl ⟨by rfl, ?_⟩) ?_ ?_
  rotate_left
  · intro w'
    go_simp
    with_reducible rfl
  rotate_left
  · simp only [Act.put, List.setIfInBounds_toArray, List.set_cons_zero, List.set_cons_succ]
    rfl
  refine one_ (i := 2) (N := some 18) #[true, true, true, true, false, true, false, false, false] rfl rfl (one_of HT_.out (by kernel_rfl)) (by decide) (fun Kq_ hK_ => ?_)
  refine goes_ Try.func11 (by kernel_rfl) rfl #[.agg #[.int .u64 m, .bool ok, .slice A4 L.length c4], .slice A ms.length c] (by rfl) rfl rfl (by (try simp only [List.map_toArray, List.map_cons, List.map_nil]); first | done | rfl) ?_
  with_reducible refine (check_any m ok A4 L.length c4 L A ms.length c ms _ (Kd.C_below HR4.out HV.out) (Kd.C_below HR.out HV.out) HWF.out.1 HWF.out.2.1 HWF.out.2.2).mono ?_
  rintro e w' ⟨rfl, hb⟩
  refine ⟨_, rfl, ?_⟩
  try replace HP := Aside0.mk (Kd.C_below HP.out hb)
  replace HV := Aside0.mk (HV.out.trans (hb.mono HV.out.size))
  clear hb
  refine hK_.out _ _ ⟨pw_cell_below HV.out HX0.out, pw_cell_below HV.out HX1.out, pw_cell_below HV.out HX2.out⟩ (fun hHeld => ?_)
  clear hK_ Kq_
  refine norm_ (a' := ?_) ?_ ?_
  rotate_left
  · show Act.put _ (some 18) _ = _
    simp only [Act.put, List.setIfInBounds_toArray, List.set_cons_zero, List.set_cons_succ]
    rfl
  refine one_ (i := 4) (N := some 20) #[true, true, true, true, true, true, false, false, false] rfl rfl (one_of HT_.out (by kernel_rfl)) (by decide) (fun Kq_ hK_ => ?_)
  refine goes_ Try.func13 (by kernel_rfl) rfl #[.agg #[.int .u64 m, .bool ok, .slice A4 L.length c4]] (by rfl) rfl rfl (by (try simp only [List.map_toArray, List.map_cons, List.map_nil]); first | done | rfl) ?_
  with_reducible refine (plain_any m ok A4 L.length c4 L _ (Kd.C_below HR4.out HV.out) (by omega)).mono ?_
  rintro e w' ⟨Ap, cp, rfl, hp, hb⟩
  refine ⟨_, rfl, ?_⟩
  have HP := Aside0.mk hp
  replace HV := Aside0.mk (HV.out.trans (hb.mono HV.out.size))
  clear hb
  clear hp
  refine hK_.out _ _ ⟨pw_cell_below HV.out HX0.out, pw_cell_below HV.out HX1.out, pw_cell_below HV.out HX2.out⟩ (fun hHeld => ?_)
  clear hK_ Kq_
  refine norm_ (a' := ?_) ?_ ?_
  rotate_left
  · show Act.put _ (some 20) _ = _
    simp only [Act.put, List.setIfInBounds_toArray, List.set_cons_zero, List.set_cons_succ]
    rfl
  refine one_ (i := 6) (N := some 22) #[true, true, true, true, true, true, true, false, false] rfl rfl (one_of HT_.out (by kernel_rfl)) (by decide) (fun Kq_ hK_ => ?_)
  refine goes_ Try.func12 (by kernel_rfl) rfl #[.agg #[.int .u64 m, .bool ok, .slice Ap L.length cp], .slice A ms.length c] (by rfl) rfl rfl (by (try simp only [List.map_toArray, List.map_cons, List.map_nil]); first | done | rfl) ?_
  with_reducible refine (refcheck_any m ok Ap L.length cp L A ms.length c ms _ HP.out (Kd.C_below HR.out HV.out) (by omega)).mono ?_
  rintro e w' ⟨rfl, hb⟩
  refine ⟨_, rfl, ?_⟩
  try replace HP := Aside0.mk (Kd.C_below HP.out hb)
  replace HV := Aside0.mk (HV.out.trans (hb.mono HV.out.size))
  clear hb
  refine hK_.out _ _ ⟨pw_cell_below HV.out HX0.out, pw_cell_below HV.out HX1.out, pw_cell_below HV.out HX2.out⟩ (fun hHeld => ?_)
  clear hK_ Kq_
  refine norm_ (a' := ?_) ?_ ?_
  rotate_left
  · show Act.put _ (some 22) _ = _
    simp only [Act.put, List.setIfInBounds_toArray, List.set_cons_zero, List.set_cons_succ]
    rfl
  refine pure_ (i := 7) (N := some 23) (v := ?_) (a' := ?_) #[true, true, true, true, true, true, true, true, false] rfl rfl (any_of HT_.out (by kernel_rfl)) (fun _ _ _ h => h) (Or.inl ⟨by rfl, ?_⟩) ?_ ?_
  rotate_left
  · intro w'
    go_simp
    with_reducible rfl
  rotate_left
  · simp only [Act.put, List.setIfInBounds_toArray, List.set_cons_zero, List.set_cons_succ]
    rfl
  refine pure_ (i := 8) (N := some 4) (v := ?_) (a' := ?_) #[true, true, true, true, true, true, true, true, true] rfl rfl (any_of HT_.out (by kernel_rfl)) (fun _ _ _ h => h) (Or.inl ⟨by rfl, ?_⟩) ?_ ?_
  rotate_left
  · intro w'
    go_simp
    with_reducible rfl
  rotate_left
  · simp only [Act.put, List.setIfInBounds_toArray, List.set_cons_zero, List.set_cons_succ]
    rfl
  refine done_ (done_of HT_.out (by kernel_rfl)) ?_
  clear HT_ hHeld
  go_wp2
  go_ret
  exact ⟨rfl, HB.out.trans (HV.out.mono HB.out.size)⟩
end Go.Proofs.Ytoojmbifkjocfaa.Proof
