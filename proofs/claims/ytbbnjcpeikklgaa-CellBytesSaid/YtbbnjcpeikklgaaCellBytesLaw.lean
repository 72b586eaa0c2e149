/- CellBytes answers true for all bytes. No conditions. -/
import Derived.Test.YtbbnjcpeikklgaaCellDecode
import Derived.Test.YtbbnjcpeikklgaaCellSameLaw
namespace Go.Proofs.Ytbbnjcpeikklgaa.Cell
open Go.RowKit Go.Proofs.YtbbnjcpeikklgaaW.PrintWords Go.Proofs.YtbbnjcpeikklgaaW.PrintLast Go.Proofs.YtbbnjcpeikklgaaW.PrintMore Go.Proofs.Ytbbnjcpeikklgaa.Kit Go.Proofs.Ytbbnjcpeikklgaa.Plain Go.Proofs.Ytbbnjcpeikklgaa.Wire
set_option linter.unusedVariables false
set_option linter.unusedSimpArgs false
theorem CelWf.byt {x : Cel} (h : CelWf x) : Byt x.body := by
  obtain ⟨_, _, h⟩ := h
  exact h
theorem C_none0 (w : World) (A : Option Addr) : RdN w A cel0.body.length cel0.body := ⟨rfl, by decide, fun h => absurd h (by decide)⟩
def tabY9 : Bool × List (List Nat × List Nat) := (true, [([], []), ([0], [0]), ([1, 1], [1]), ([2], [2]), ([3, 2], [2, 3]), ([2, 4], [2, 4]), ([5, 2], [5]), ([6], [6]), ([7, 6], [6, 7]), ([6], [6]), ([9, 6], [6, 9]), ([8, 10, 6], [6, 8, 10]), ([6], [6]), ([12, 6], [6, 12]), ([11, 13, 6], [6, 11, 13]), ([6, 14], [6, 14]), ([15, 6], [15]), ([16], [16]), ([16], [16]), ([17, 18, 16, 16], [16, 17, 18]), ([16], [16]), ([19, 20, 19, 16], [16, 19, 20]), ([21, 16], [16, 21]), ([16], [16]), ([23, 16], [16, 23]), ([22, 24, 16], [16, 22, 24]), ([16, 25], [16, 25]), ([26, 21, 0, 1, 2, 3, 4, 5, 6, 7, 8, 9, 10, 11, 12, 13, 14, 15, 16, 17, 18, 19, 20, 21, 22, 23, 24, 25, 26], [26])])
theorem tabY9_ok : rtab .any (opsOf Try.f8 9) = tabY9 := by kernel_rfl
set_option maxHeartbeats 6400000 in
set_option maxRecDepth 100000 in
theorem bytes_law (A : Option Addr) (c : Nat) (b : List Int) (w : World) (hr : RdB w A b) (hc : b.length ≤ c) (hy : Byt b) :
    Calls Try.prog 8 #[.slice A b.length c] w fun e w' => e = .returned (.bool true) ∧ Below w.heap.size w w' := by
  have hmx := C_max hr
  have HR := Aside0.mk hr
  have HC := Aside0.mk hc
  have HY := Aside0.mk hy
  clear hr hc hy
  have HB := Aside0.mk (Below.refl w.heap.size w)
  by_cases hlen : 300 < b.length
  · have g0 : decide (300 < (b.length : Int)) = true := decide_eq_true (by omega)
    go_enter Try.func8, Try.ntmps8
    go_wp2_with (go_at_call 12; refine (awake_any _).mono ?_; rintro e w1 ⟨rfl, hb⟩; clear HB; have HB := Aside0.mk hb; clear hb)
    go_ret
    exact ⟨rfl, HB.out⟩
  have g0 : decide (300 < (b.length : Int)) = false := decide_eq_false (by omega)
  have hb300 : b.length ≤ 300 := by omega
  obtain ⟨r, hr⟩ : ∃ r, r = decS b := ⟨_, rfl⟩
  obtain ⟨x, rest, er⟩ := r
  by_cases he : er = 0
  · subst he
    obtain ⟨hrx, hwx, hbe⟩ := dec_inv HY.out hr.symm
    have HRX := Aside0.mk hrx
    have HWX := Aside0.mk hwx
    have HBE := Aside0.mk hbe
    have HDE := Aside0.mk hr.symm
    have hnl : (encS x).length + rest.length = b.length := by rw [← hbe, List.length_append]
    obtain ⟨n5, hn5⟩ : ∃ n, n = (encS x).length := ⟨_, rfl⟩
    obtain ⟨n4, hn4⟩ : ∃ n, n = rest.length := ⟨_, rfl⟩
    rw [← hn5, ← hn4] at hnl
    have hsum : (n5 : Int) + (n4 : Int) = (b.length : Int) := by omega
    have hn5b : n5 ≤ 300 := by omega
    have hn4b : n4 ≤ 300 := by omega
    have HN5 := Aside0.mk hn5
    have HN4 := Aside0.mk hn4
    have HSUM := Aside0.mk hsum
    have hwr : IntKind.i64.wrap ((n5 : Int) + (n4 : Int)) = (b.length : Int) := by rw [hsum]; exact IntWalk.i64_in _ (by omega)
    have HWRP := Aside0.mk hwr
    clear hr hwx hbe hn5 hn4 hsum hlen hrx hnl hwr
    go_enter Try.func8, Try.ntmps8
    go_upto_region 6 with (first
      | (go_at_call 12; refine (awake_any _).mono ?_; rintro e w1 ⟨rfl, hb⟩; clear HB; have HB := Aside0.mk hb; clear hb)
      | (go_at_call 21; go_must (refine (decode_any A c b _ (Kd.C_below HR.out HB.out) HC.out HY.out (by omega)).mono ?_; rintro e y2 hd; rw [HDE.out] at hd; obtain ⟨⟨A1, k1, A4, k4, rfl, ho, hr4, hk4⟩, hb⟩ := hd; simp only at ho hr4 hk4 ⊢; have HR1 := Aside0.mk (Ow_rd ho).2.2; rw [← HN4.out]; have HR4 := Aside0.mk (show Kd.C (Kd.int .u8) y2 A4 n4 rest by rw [HN4.out]; exact Kd.C_below hr4 hb); replace HB := Aside0.mk (HB.out.trans (hb.mono HB.out.size)); clear hb ho hr4 hk4)))
    obtain ⟨w3, hw3⟩ : ∃ w3, w3 = y2.alloc (.cells (celA x A1 k1) 27) := ⟨_, rfl⟩
    rw [← hw3]
    have hb : Below y2.heap.size y2 w3 := by rw [hw3]; exact below_alloc (Below.refl _ _) _
    have HD := Aside0.mk (show w3.heap[y2.heap.size]? = some (.cells (celA x A1 k1) 27 (0, 0)) by rw [hw3]; exact blk_new _ _)
    replace HR1 := Aside0.mk (Kd.C_below HR1.out hb)
    replace HR4 := Aside0.mk (Kd.C_below HR4.out hb)
    replace HB := Aside0.mk (HB.out.trans (hb.mono HB.out.size));
    clear hw3 hb
    have hdb := HD.out
    obtain ⟨c0, c1, c2, c3, c4, c5, c6, c7, c8, c9⟩ := cel_at (x := x) (A := A1) (c := k1) hdb; have c10 : w3.cell? ⟨y2.heap.size, 10, none⟩ = some (.slice A1 x.body.length k1) := blk_cell hdb 10
    clear hdb
    go_upto_region 9 with (go_at_call 13; go_must (refine (encode_yes x A1 k1 _ HR1.out HWX.out HRX.out).mono ?_; rintro e y6 ⟨⟨v5, rfl, ho⟩, hb⟩; obtain ⟨A5, k5, rfl, hk5, hr5⟩ := Ow_slice ho; rw [← HN5.out]; have HR5 := Aside0.mk (show Kd.C (Kd.int .u8) y6 A5 n5 (encS x) by rw [HN5.out]; exact hr5); replace HR1 := Aside0.mk (Kd.C_below HR1.out hb); replace HR4 := Aside0.mk (Kd.C_below HR4.out hb); replace HD := Aside0.mk ((hb.block _ (blk_lt HD.out)).trans HD.out); replace HB := Aside0.mk (HB.out.trans (hb.mono HB.out.size)); clear hb ho hk5 hr5))
    have HB0 := HB
    clear HB
    have HB := Aside0.mk (Below.refl y6.heap.size y6)
    have HRB := Aside0.mk (Kd.C_below HR.out HB0.out)
    clear c0 c1 c2 c3 c4 c5 c6 c7 c8 c9 c10
    go_wp2_with (fail)
    refine start_ (n := 28) (S := fun w' => w'.heap[y2.heap.size]? = some (.cells (celA x A1 k1) 27 (0, 0)) ∧ RdB w' A b) (ds := []) #[false, false, false, false, false, false, false, false, false, false, false, false, false, false, false, false, false, false, false, false, false, false, false, false, false, false, false, false] (by kernel_rfl) rfl rfl ⟨((below_drew (Below.refl y6.heap.size y6)).block _ (blk_lt HD.out)).trans HD.out, Kd.C_below HRB.out (below_drew (Below.refl _ _))⟩ (fun hHeld => ?_); refine with_tab tabY9_ok (fun HT_ => ?_)
    have hb : Below y6.heap.size y6 y6.drew := below_drew (Below.refl _ _)
    replace HB := Aside0.mk (HB.out.trans (hb.mono HB.out.size))
    clear hb
    refine take_ (i := 0) (N := some 34) (v := ?_) (a' := ?_) #[true, false, false, false, false, false, false, false, false, false, false, false, false, false, false, false, false, false, false, false, false, false, false, false, false, false, false, false] rfl rfl (take_of HT_.out (by kernel_rfl)) (fun _ _ _ h => h) (Or.inl ⟨by rfl, ?_⟩) hHeld ?_ ?_
    rotate_left
    · intro w' hw'
      obtain ⟨s0, s1⟩ := hw'; obtain ⟨c0, c1, c2, c3, c4, c5, c6, c7, c8, c9⟩ := cel_at (x := x) (A := A1) (c := k1) s0; have c10 : w'.cell? ⟨y2.heap.size, 10, none⟩ = some (.slice A1 x.body.length k1) := blk_cell s0 10
      go_simp
      with_reducible rfl
    rotate_left
    · simp only [Act.put, List.setIfInBounds_toArray, List.set_cons_zero, List.set_cons_succ]
      rfl
    refine one_ (i := 1) (N := some 35) #[true, true, false, false, false, false, false, false, false, false, false, false, false, false, false, false, false, false, false, false, false, false, false, false, false, false, false, false] rfl rfl (one_of HT_.out (by kernel_rfl)) (by decide) (fun Kq_ hK_ => ?_)
    refine goes_ Try.func18 (by kernel_rfl) rfl #[.agg (celA x A1 k1)] (by rfl) rfl rfl (by (try simp only [List.map_toArray, List.map_cons, List.map_nil]); first | done | rfl) ?_
    with_reducible refine (right_any x A1 k1 _ (Kd.C_below HR1.out HB.out) (CelWf.byt HWX.out)).mono ?_
    rintro e w' ⟨rfl, hb⟩
    refine ⟨_, rfl, ?_⟩
    rw [HRX.out]
    replace HB := Aside0.mk (HB.out.trans (hb.mono HB.out.size))
    clear hb
    refine hK_.out _ _ ⟨(HB.out.block _ (blk_lt HD.out)).trans HD.out, Kd.C_below HRB.out HB.out⟩ (fun hHeld => ?_)
    clear hK_ Kq_
    refine norm_ (a' := ?_) ?_ ?_
    rotate_left
    · show Act.put _ (some 35) _ = _
      simp only [Act.put, List.setIfInBounds_toArray, List.set_cons_zero, List.set_cons_succ]
      rfl
    refine pure_ (i := 2) (N := some 36) (v := ?_) (a' := ?_) #[true, true, true, false, false, false, false, false, false, false, false, false, false, false, false, false, false, false, false, false, false, false, false, false, false, false, false, false] rfl rfl (any_of HT_.out (by kernel_rfl)) (fun _ _ _ h => h) (Or.inl ⟨by rfl, ?_⟩) ?_ ?_
    rotate_left
    · intro w'
      go_simp
      with_reducible rfl
    rotate_left
    · simp only [Act.put, List.setIfInBounds_toArray, List.set_cons_zero, List.set_cons_succ]
      rfl
    refine pure_ (i := 3) (N := some 37) (v := ?_) (a' := ?_) #[true, true, true, true, false, false, false, false, false, false, false, false, false, false, false, false, false, false, false, false, false, false, false, false, false, false, false, false] rfl rfl (any_of HT_.out (by kernel_rfl)) (fun _ _ _ h => h) (Or.inl ⟨by rfl, ?_⟩) ?_ ?_
    rotate_left
    · intro w'
      go_simp
      with_reducible rfl
    rotate_left
    · simp only [Act.put, List.setIfInBounds_toArray, List.set_cons_zero, List.set_cons_succ]
      rfl
    refine pure_ (i := 4) (N := some 38) (v := ?_) (a' := ?_) #[true, true, true, true, true, false, false, false, false, false, false, false, false, false, false, false, false, false, false, false, false, false, false, false, false, false, false, false] rfl rfl (any_of HT_.out (by kernel_rfl)) (fun _ _ _ h => h) (Or.inl ⟨by rfl, ?_⟩) ?_ ?_
    rotate_left
    · intro w'
      go_simp
      with_reducible rfl
    rotate_left
    · simp only [Act.put, List.setIfInBounds_toArray, List.set_cons_zero, List.set_cons_succ]
      rfl
    refine pure_ (i := 5) (N := some 39) (v := ?_) (a' := ?_) #[true, true, true, true, true, true, false, false, false, false, false, false, false, false, false, false, false, false, false, false, false, false, false, false, false, false, false, false] rfl rfl (any_of HT_.out (by kernel_rfl)) (fun _ _ _ h => h) (Or.inl ⟨by rfl, ?_⟩) ?_ ?_
    rotate_left
    · intro w'
      go_simp
      with_reducible rfl
    rotate_left
    · simp only [Act.put, List.setIfInBounds_toArray, List.set_cons_zero, List.set_cons_succ]
      rfl
    refine pure_ (i := 6) (N := some 40) (v := ?_) (a' := ?_) #[true, true, true, true, true, true, true, false, false, false, false, false, false, false, false, false, false, false, false, false, false, false, false, false, false, false, false, false] rfl rfl (any_of HT_.out (by kernel_rfl)) (fun _ _ _ h => h) (Or.inl ⟨by rfl, ?_⟩) ?_ ?_
    rotate_left
    · intro w'
      go_simp
      with_reducible rfl
    rotate_left
    · simp only [Act.put, List.setIfInBounds_toArray, List.set_cons_zero, List.set_cons_succ]
      rfl
    refine pure_ (i := 7) (N := some 41) (v := ?_) (a' := ?_) #[true, true, true, true, true, true, true, true, false, false, false, false, false, false, false, false, false, false, false, false, false, false, false, false, false, false, false, false] rfl rfl (any_of HT_.out (by kernel_rfl)) (fun _ _ _ h => h) (Or.inl ⟨by rfl, ?_⟩) ?_ ?_
    rotate_left
    · intro w'
      go_simp
      with_reducible rfl
    rotate_left
    · simp only [Act.put, List.setIfInBounds_toArray, List.set_cons_zero, List.set_cons_succ]
      rfl
    refine pure_ (i := 8) (N := some 42) (v := ?_) (a' := ?_) #[true, true, true, true, true, true, true, true, true, false, false, false, false, false, false, false, false, false, false, false, false, false, false, false, false, false, false, false] rfl rfl (any_of HT_.out (by kernel_rfl)) (fun _ _ _ h => h) (Or.inl ⟨by rfl, ?_⟩) ?_ ?_
    rotate_left
    · intro w'
      go_simp
      with_reducible rfl
    rotate_left
    · simp only [Act.put, List.setIfInBounds_toArray, List.set_cons_zero, List.set_cons_succ]
      rfl
    refine pure_ (i := 9) (N := some 43) (v := ?_) (a' := ?_) #[true, true, true, true, true, true, true, true, true, true, false, false, false, false, false, false, false, false, false, false, false, false, false, false, false, false, false, false] rfl rfl (any_of HT_.out (by kernel_rfl)) (fun _ _ _ h => h) (Or.inl ⟨by rfl, ?_⟩) ?_ ?_
    rotate_left
    · intro w'
      go_simp
      with_reducible rfl
    rotate_left
    · simp only [Act.put, List.setIfInBounds_toArray, List.set_cons_zero, List.set_cons_succ]
      rfl
    refine pure_ (i := 10) (N := some 44) (v := ?_) (a' := ?_) #[true, true, true, true, true, true, true, true, true, true, true, false, false, false, false, false, false, false, false, false, false, false, false, false, false, false, false, false] rfl rfl (any_of HT_.out (by kernel_rfl)) (fun _ _ _ h => h) (Or.inl ⟨by rfl, ?_⟩) ?_ ?_
    rotate_left
    · intro w'
      go_simp
      with_reducible rfl
    rotate_left
    · simp only [Act.put, List.setIfInBounds_toArray, List.set_cons_zero, List.set_cons_succ]
      rfl
    refine pure_ (i := 11) (N := some 45) (v := (.int .i64 (b.length : Int))) (a' := ?_) #[true, true, true, true, true, true, true, true, true, true, true, true, false, false, false, false, false, false, false, false, false, false, false, false, false, false, false, false] rfl rfl (any_of HT_.out (by kernel_rfl)) (fun _ _ _ h => h) (Or.inl ⟨by rfl, ?_⟩) ?_ ?_
    · intro w'
      go_simp
      first | done | exact HWRP.out | rfl | (rw [HWRP.out]; done) | (simp [HWRP.out]; done) | trace_state
    rotate_left
    · simp only [Act.put, List.setIfInBounds_toArray, List.set_cons_zero, List.set_cons_succ]
      rfl
    refine pure_ (i := 12) (N := some 46) (v := ?_) (a' := ?_) #[true, true, true, true, true, true, true, true, true, true, true, true, true, false, false, false, false, false, false, false, false, false, false, false, false, false, false, false] rfl rfl (any_of HT_.out (by kernel_rfl)) (fun _ _ _ h => h) (Or.inl ⟨by rfl, ?_⟩) ?_ ?_
    rotate_left
    · intro w'
      go_simp
      with_reducible rfl
    rotate_left
    · simp only [Act.put, List.setIfInBounds_toArray, List.set_cons_zero, List.set_cons_succ]
      rfl
    refine pure_ (i := 13) (N := some 47) (v := ?_) (a' := ?_) #[true, true, true, true, true, true, true, true, true, true, true, true, true, true, false, false, false, false, false, false, false, false, false, false, false, false, false, false] rfl rfl (any_of HT_.out (by kernel_rfl)) (fun _ _ _ h => h) (Or.inl ⟨by rfl, ?_⟩) ?_ ?_
    rotate_left
    · intro w'
      go_simp
      with_reducible rfl
    rotate_left
    · simp only [Act.put, List.setIfInBounds_toArray, List.set_cons_zero, List.set_cons_succ]
      rfl
    refine pure_ (i := 14) (N := some 48) (v := (.bool true)) (a' := ?_) #[true, true, true, true, true, true, true, true, true, true, true, true, true, true, true, false, false, false, false, false, false, false, false, false, false, false, false, false] rfl rfl (any_of HT_.out (by kernel_rfl)) (fun _ _ _ h => h) (Or.inl ⟨by rfl, ?_⟩) ?_ ?_
    · intro w'
      go_simp
      first | done | exact rfl | rfl | (rw [rfl]; done) | (simp [rfl]; done) | trace_state
    rotate_left
    · simp only [Act.put, List.setIfInBounds_toArray, List.set_cons_zero, List.set_cons_succ]
      rfl
    refine pure_ (i := 15) (N := some 49) (v := ?_) (a' := ?_) #[true, true, true, true, true, true, true, true, true, true, true, true, true, true, true, true, false, false, false, false, false, false, false, false, false, false, false, false] rfl rfl (any_of HT_.out (by kernel_rfl)) (fun _ _ _ h => h) (Or.inl ⟨by rfl, ?_⟩) ?_ ?_
    rotate_left
    · intro w'
      go_simp
      with_reducible rfl
    rotate_left
    · simp only [Act.put, List.setIfInBounds_toArray, List.set_cons_zero, List.set_cons_succ]
      rfl
    refine pure_ (i := 16) (N := some 50) (v := ?_) (a' := ?_) #[true, true, true, true, true, true, true, true, true, true, true, true, true, true, true, true, true, false, false, false, false, false, false, false, false, false, false, false] rfl rfl (any_of HT_.out (by kernel_rfl)) (fun _ _ _ h => h) (Or.inl ⟨by rfl, ?_⟩) ?_ ?_
    rotate_left
    · intro w'
      go_simp
      with_reducible rfl
    rotate_left
    · simp only [Act.put, List.setIfInBounds_toArray, List.set_cons_zero, List.set_cons_succ]
      rfl
    refine pure_ (i := 18) (N := some 52) (v := ?_) (a' := ?_) #[true, true, true, true, true, true, true, true, true, true, true, true, true, true, true, true, true, false, true, false, false, false, false, false, false, false, false, false] rfl rfl (any_of HT_.out (by kernel_rfl)) (fun _ _ _ h => h) (Or.inl ⟨by rfl, ?_⟩) ?_ ?_
    rotate_left
    · intro w'
      go_simp
      with_reducible rfl
    rotate_left
    · simp only [Act.put, List.setIfInBounds_toArray, List.set_cons_zero, List.set_cons_succ]
      rfl
    refine pure_ (i := 20) (N := some 54) (v := ?_) (a' := ?_) #[true, true, true, true, true, true, true, true, true, true, true, true, true, true, true, true, true, false, true, false, true, false, false, false, false, false, false, false] rfl rfl (any_of HT_.out (by kernel_rfl)) (fun _ _ _ h => h) (Or.inl ⟨by rfl, ?_⟩) ?_ ?_
    rotate_left
    · intro w'
      go_simp
      with_reducible rfl
    rotate_left
    · simp only [Act.put, List.setIfInBounds_toArray, List.set_cons_zero, List.set_cons_succ]
      rfl
    refine pure_ (i := 23) (N := some 57) (v := ?_) (a' := ?_) #[true, true, true, true, true, true, true, true, true, true, true, true, true, true, true, true, true, false, true, false, true, false, false, true, false, false, false, false] rfl rfl (any_of HT_.out (by kernel_rfl)) (fun _ _ _ h => h) (Or.inl ⟨by rfl, ?_⟩) ?_ ?_
    rotate_left
    · intro w'
      go_simp
      with_reducible rfl
    rotate_left
    · simp only [Act.put, List.setIfInBounds_toArray, List.set_cons_zero, List.set_cons_succ]
      rfl
    refine take_ (i := 24) (N := some 58) (v := ?_) (a' := ?_) #[true, true, true, true, true, true, true, true, true, true, true, true, true, true, true, true, true, false, true, false, true, false, false, true, true, false, false, false] rfl rfl (take_of HT_.out (by kernel_rfl)) (fun _ _ _ h => h) (Or.inl ⟨by rfl, ?_⟩) hHeld ?_ ?_
    rotate_left
    · intro w' hw'
      obtain ⟨s0, s1⟩ := hw'; have hs := Kd.C_string (P := Try.prog) (c := c) Try.underlying25 Try.underlying5 Try.underlying9 s1
      go_simp
      with_reducible rfl
    rotate_left
    · simp only [Act.put, List.setIfInBounds_toArray, List.set_cons_zero, List.set_cons_succ]
      rfl
    refine one_ (i := 17) (N := some 51) #[true, true, true, true, true, true, true, true, true, true, true, true, true, true, true, true, true, true, true, false, true, false, false, true, true, false, false, false] rfl rfl (one_of HT_.out (by kernel_rfl)) (by decide) (fun Kq_ hK_ => ?_)
    refine litB_step y6.heap.size (by rfl) (N := 51) rfl [] ?hr HB.out HB.out.size (by simp) ?_
    (case hr => first | (go_simp; done) | (go_simp; rfl))
    intro v17 w17 ho hb0 hn hb
    clear HB
    have HB := Aside0.mk hb0
    have HO17 := Aside0.mk ho
    obtain ⟨A17, c17, rfl, hcap17, hr17⟩ := Ow_slice ho
    have HR17 := Aside0.mk hr17
    clear hr17 ho hb hb0 hn
    refine hK_.out _ _ ⟨(HB.out.block _ (blk_lt HD.out)).trans HD.out, Kd.C_below HRB.out HB.out⟩ (fun hHeld => ?_)
    clear hK_ Kq_
    refine norm_ (a' := ?_) ?_ ?_
    rotate_left
    · show Act.put _ (some 51) _ = _
      simp only [Act.put, List.setIfInBounds_toArray, List.set_cons_zero, List.set_cons_succ]
      rfl
    refine one_ (i := 19) (N := some 53) #[true, true, true, true, true, true, true, true, true, true, true, true, true, true, true, true, true, true, true, true, true, false, false, true, true, false, false, false] rfl rfl (one_of HT_.out (by kernel_rfl)) (by decide) (fun Kq_ hK_ => ?_)
    refine appB_step y6.heap.size (by rfl) (.tmp 51) (.tmp 52) rfl rfl _ [] (encS x) A5 n5 k5 rfl rfl HO17.out (Kd.C_below HR5.out HB.out) HB.out HB.out.size (by simp; omega) ?_
    intro v19 w19 ho hb hg hat
    clear HB
    have HB := Aside0.mk hb
    have HO19 := Aside0.mk ho
    clear ho hb hg hat
    refine hK_.out _ _ ⟨(HB.out.block _ (blk_lt HD.out)).trans HD.out, Kd.C_below HRB.out HB.out⟩ (fun hHeld => ?_)
    clear hK_ Kq_
    refine norm_ (a' := ?_) ?_ ?_
    rotate_left
    · show Act.put _ (some 53) _ = _
      simp only [Act.put, List.setIfInBounds_toArray, List.set_cons_zero, List.set_cons_succ]
      rfl
    refine one_ (i := 21) (N := some 55) #[true, true, true, true, true, true, true, true, true, true, true, true, true, true, true, true, true, true, true, true, true, true, false, true, true, false, false, false] rfl rfl (one_of HT_.out (by kernel_rfl)) (by decide) (fun Kq_ hK_ => ?_)
    refine appB_step y6.heap.size (by rfl) (.tmp 53) (.tmp 54) rfl rfl v19 ([] ++ encS x) rest A4 n4 k4 rfl rfl HO19.out (Kd.C_below HR4.out HB.out) HB.out HB.out.size (by rw [List.nil_append, ← HN5.out]; omega) ?_
    intro v21 w21 ho hb hg hat
    rw [List.nil_append, HBE.out] at ho
    obtain ⟨A21, k21, rfl⟩ := Kd.R_slice ho
    clear HB
    have HB := Aside0.mk hb
    have HO21 := Aside0.mk ho
    clear ho hb hg hat
    refine hK_.out _ _ ⟨(HB.out.block _ (blk_lt HD.out)).trans HD.out, Kd.C_below HRB.out HB.out⟩ (fun hHeld => ?_)
    clear hK_ Kq_
    refine norm_ (a' := ?_) ?_ ?_
    rotate_left
    · show Act.put _ (some 55) _ = _
      simp only [Act.put, List.setIfInBounds_toArray, List.set_cons_zero, List.set_cons_succ]
      rfl
    refine one_ (i := 22) (N := some 56) #[true, true, true, true, true, true, true, true, true, true, true, true, true, true, true, true, true, true, true, true, true, true, true, true, true, false, false, false] rfl rfl (one_of HT_.out (by kernel_rfl)) (by decide) (fun Kq_ hK_ => ?_)
    have hs := Kd.C_string (P := Try.prog) (c := k21) Try.underlying25 Try.underlying5 Try.underlying9 (Ow_rd HO21.out).2.2
    refine value_ (w1 := ?_) (v := ?_) (by rfl) rfl ?_ ?_
    rotate_left 2
    · go_simp
      constructor
      · rfl
      · rfl
    refine hK_.out _ _ ⟨(HB.out.block _ (blk_lt HD.out)).trans HD.out, Kd.C_below HRB.out HB.out⟩ (fun hHeld => ?_)
    clear hK_ Kq_
    refine norm_ (a' := ?_) ?_ ?_
    rotate_left
    · show Act.put _ (some 56) _ = _
      simp only [Act.put, List.setIfInBounds_toArray, List.set_cons_zero, List.set_cons_succ]
      rfl
    refine pure_ (i := 25) (N := some 59) (v := (.bool true)) (a' := ?_) #[true, true, true, true, true, true, true, true, true, true, true, true, true, true, true, true, true, true, true, true, true, true, true, true, true, true, false, false] rfl rfl (any_of HT_.out (by kernel_rfl)) (fun _ _ _ h => h) (Or.inl ⟨by rfl, ?_⟩) ?_ ?_
    · intro w'
      go_simp
      first | done | exact rfl | rfl | (rw [rfl]; done) | (simp [rfl]; done) | trace_state
    rotate_left
    · simp only [Act.put, List.setIfInBounds_toArray, List.set_cons_zero, List.set_cons_succ]
      rfl
    refine pure_ (i := 26) (N := some 60) (v := ?_) (a' := ?_) #[true, true, true, true, true, true, true, true, true, true, true, true, true, true, true, true, true, true, true, true, true, true, true, true, true, true, true, false] rfl rfl (any_of HT_.out (by kernel_rfl)) (fun _ _ _ h => h) (Or.inl ⟨by rfl, ?_⟩) ?_ ?_
    rotate_left
    · intro w'
      go_simp
      with_reducible rfl
    rotate_left
    · simp only [Act.put, List.setIfInBounds_toArray, List.set_cons_zero, List.set_cons_succ]
      rfl
    refine pure_ (i := 27) (N := some 2) (v := ?_) (a' := ?_) #[true, true, true, true, true, true, true, true, true, true, true, true, true, true, true, true, true, true, true, true, true, true, true, true, true, true, true, true] rfl rfl (any_of HT_.out (by kernel_rfl)) (fun _ _ _ h => h) (Or.inl ⟨by rfl, ?_⟩) ?_ ?_
    rotate_left
    · intro w'
      go_simp
      with_reducible rfl
    rotate_left
    · simp only [Act.put, List.setIfInBounds_toArray, List.set_cons_zero, List.set_cons_succ]
      rfl
    refine done_ (done_of HT_.out (by kernel_rfl)) ?_
    clear HT_ hHeld
    go_wp2
    go_ret
    exact ⟨rfl, HB0.out.trans (HB.out.mono HB0.out.size)⟩
  · obtain ⟨rfl, rfl, hee⟩ := dec_none hr.symm he
    have HDE := Aside0.mk hr.symm
    have f1 : (er == 0) = false := beq_eq_false_iff_ne.2 he
    clear hr he hee hlen
    go_enter Try.func8, Try.ntmps8
    go_wp2_with (first
      | (go_at_call 12; refine (awake_any _).mono ?_; rintro e w1 ⟨rfl, hb⟩; clear HB; have HB := Aside0.mk hb; clear hb)
      | (go_at_call 21; go_must (refine (decode_any A c b _ (Kd.C_below HR.out HB.out) HC.out HY.out (by omega)).mono ?_; rintro e y2 hd; rw [HDE.out] at hd; obtain ⟨⟨A1, k1, A4, k4, rfl, _, _, _⟩, hb⟩ := hd; simp only [cel0, List.length_nil]; replace HB := Aside0.mk (HB.out.trans (hb.mono HB.out.size)); clear hb))
      | (go_at_call 16; go_must (refine (same_any cel0 cel0 A1 none k1 0 _ (C_none0 _ _) (RdB_nil _) Byt.nil Byt.nil).mono ?_; rintro e y28 ⟨rfl, hb⟩; rw [sameB_self]; replace HB := Aside0.mk ((HB.out.alloc HB.out.size _).trans (hb.mono (by have := HB.out.size; simp; omega))); clear hb)))
    go_ret
    exact ⟨rfl, HB.out⟩
end Go.Proofs.Ytbbnjcpeikklgaa.Cell
