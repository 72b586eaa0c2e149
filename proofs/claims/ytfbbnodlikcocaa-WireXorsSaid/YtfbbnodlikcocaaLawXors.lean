/- WireXors answers true for every two rows of bytes. No conditions. -/
import Derived.Test.YtfbbnodlikcocaaWire
namespace Go.Proofs.Ytfbbnodlikcocaa.LawXors
open Go.RowKit Go.Proofs.YtfbbnodlikcocaaW.PrintWords Go.Proofs.YtfbbnodlikcocaaW.PrintLast Go.Proofs.YtfbbnodlikcocaaW.PrintMore Go.Proofs.Ytfbbnodlikcocaa.Kit Go.Proofs.Ytfbbnodlikcocaa.Plain Go.Proofs.Ytfbbnodlikcocaa.Wire
set_option linter.unusedVariables false
set_option linter.unusedSimpArgs false

def tab7 : Bool × List (List Nat × List Nat) := (true, [([], []), ([], []), ([], []), ([1, 2], [1, 2]), ([0, 3, 3], [0, 3]), ([4], [4]), ([5, 4], [5]), ([6], [6]), ([6], [6]), ([7, 8, 6, 6], [6, 7, 8]), ([6], [6]), ([9, 10, 9, 6], [6, 9, 10]), ([11, 6], [6, 11]), ([6, 12], [6, 12]), ([13, 11], [13]), ([14], [14]), ([14], [14]), ([15, 16, 14, 14], [14, 15, 16]), ([14], [14]), ([14], [14]), ([19, 14], [14, 19]), ([18, 20, 14], [14, 18, 20]), ([17, 21, 17, 14], [14, 17, 21]), ([22, 14], [14, 22]), ([14, 23], [14, 23])])
theorem tab7_ok : rtab .any (opsOf Try.f3 7) = tab7 := by kernel_rfl
set_option maxHeartbeats 1600000 in
set_option maxRecDepth 100000 in
theorem xors_any (A0 : Option Addr) (m0 c0 : Nat) (a : List Int) (A1 : Option Addr) (m1 c1 : Nat) (b : List Int) (w : World)
    (hr0 : RdN w A0 m0 a) (hr1 : RdN w A1 m1 b) (hc0 : m0 ≤ c0) (ha : Byt a) (hb : Byt b) :
    Calls Try.prog 3 #[.slice A0 m0 c0, .slice A1 m1 c1] w fun e w' => e = .returned (.bool true) ∧ Below w.heap.size w w' := by
  have HB := Aside0.mk (Below.refl w.heap.size w)
  have hmax0 := C_max hr0
  have hmax1 := C_max hr1
  have HR0 := Aside0.mk hr0
  have HR1 := Aside0.mk hr1
  have HL0 := Aside0.mk (C_len hr0)
  have HL1 := Aside0.mk (C_len hr1)
  clear hr0 hr1
  by_cases h0 : 100 < m0
  · go_enter Try.func3, Try.ntmps3
    go_wp2_with (go_at_call 11; refine (awake_any _).mono ?_; rintro e w1 ⟨rfl, hb⟩; clear HB; have HB := Aside0.mk hb; clear hb)
    go_ret
    exact ⟨rfl, HB.out⟩
  by_cases h1 : 100 < m1
  · go_enter Try.func3, Try.ntmps3
    go_wp2_with (go_at_call 11; refine (awake_any _).mono ?_; rintro e w1 ⟨rfl, hb⟩; clear HB; have HB := Aside0.mk hb; clear hb)
    go_ret
    exact ⟨rfl, HB.out⟩
  have HX : Aside0 ((xorS a b).length ≤ m0 ∧ (xorS a b).length ≤ 100) := ⟨by rw [xorS_len, HL0.out, HL1.out]; omega⟩
  have HE1 : Aside0 (xorS b a = xorS a b) := ⟨xorS_comm hb ha⟩
  have HE2 : Aside0 (xorS (xorS a b) b = a.take (xorS a b).length) := ⟨xorS_back ha hb⟩
  have HE3 : Aside0 (xorS a a = List.replicate m0 0) := ⟨by rw [xorS_self ha, HL0.out]⟩
  have HY := Aside0.mk (And.intro ha hb)
  have g0 : decide (100 < (m0 : Int)) = false := decide_eq_false (by omega)
  have g1 : decide (100 < (m1 : Int)) = false := decide_eq_false (by omega)
  clear ha hb
  go_enter Try.func3, Try.ntmps3
  go_wp2_with (first
    | (go_at_call 11; refine (awake_any _).mono ?_; rintro e w1 ⟨rfl, hb⟩; clear HB; have HB := Aside0.mk hb; clear hb)
    | ((with_reducible refine gate_dst (N := 20) rfl ?_); (try (refine gate_guard (by rfl) ?_; dsimp only)); refine litB w.heap.size rfl (N := 20) rfl [] ?hr HB.out HB.out.size (by simp) ?_; (case hr => first | (go_simp; done) | (go_simp; rfl)); intro v2 w2 ho hb0 hn hb; clear HB; have HB := Aside0.mk hb0; have HO2 := Aside0.mk ho; obtain ⟨A2, c2, rfl, hcap2, hr2⟩ := Ow_slice ho; have HR2 := Aside0.mk hr2; clear hr2 ho hb hb0 hn)
    | ((with_reducible refine gate_dst (N := 22) rfl ?_); (try (refine gate_guard (by rfl) ?_; dsimp only)); refine appB w.heap.size rfl (.tmp 20) (.tmp 21) rfl rfl _ [] a A0 m0 c0 rfl rfl HO2.out (Kd.C_below HR0.out HB.out) HB.out HB.out.size (by simp; omega) ?_; intro v3 w3 ho hb hg hat; clear HB; have HB := Aside0.mk hb; have HO3 := Aside0.mk ho; clear ho hb hg hat)
    | (go_at_call 12; refine (xor_any A0 m0 _ _ A1 m1 _ _ _ (Kd.C_below HR0.out HB.out) (Kd.C_below HR1.out HB.out) (by omega) (by omega)).mono ?_; rintro e wx ⟨vx, rfl, ho, hb⟩; have HW := Aside0.mk (Kd.R_elder' HO3.out (Kd.R_base ho) hb); obtain ⟨Ax, cx, rfl, hcapx, hrx⟩ := Ow_slice ho; have HOx := Aside0.mk (Kd.R_lower ho HB.out.size); have HRx := Aside0.mk hrx; replace HB := Aside0.mk (HB.out.trans (hb.mono HB.out.size)); clear ho hb hrx HO3 HO2 HR2))
  have ct := cutTo A0 m0 c0 (xorS a b).length HX.out.1 hc0 .i64
  have HT := Aside0.mk (RdN_take (Kd.C_below HR0.out HB.out) (xorS a b).length HX.out.1)
  refine start_ (n := 25) (S := fun w' => True) (ds := []) #[false, false, false, false, false, false, false, false, false, false, false, false, false, false, false, false, false, false, false, false, false, false, false, false, false] (by kernel_rfl) rfl rfl trivial (fun hHeld => ?_); refine with_tab tab7_ok (fun HT_ => ?_)
  have hb : Below wx.heap.size wx wx.drew := below_drew (Below.refl _ _)
  replace HT := Aside0.mk (Kd.C_below HT.out hb)
  replace HRx := Aside0.mk (Kd.C_below HRx.out hb)
  replace HW := Aside0.mk (Kd.R_below HW.out hb)
  replace HOx := Aside0.mk (Kd.R_below HOx.out hb)
  replace HB := Aside0.mk (HB.out.trans (hb.mono HB.out.size))
  clear hb
  refine pure_ (i := 0) (N := some 26) (v := ?_) (a' := ?_) #[true, false, false, false, false, false, false, false, false, false, false, false, false, false, false, false, false, false, false, false, false, false, false, false, false] rfl rfl (any_of HT_.out (by kernel_rfl)) (fun _ _ _ h => h) (Or.inl ⟨by rfl, ?_⟩) ?_ ?_
  rotate_left
  · intro w'
    go_simp
    with_reducible rfl
  rotate_left
  · simp only [Act.put, List.setIfInBounds_toArray, List.set_cons_zero, List.set_cons_succ]
    rfl
  refine pure_ (i := 1) (N := some 27) (v := ?_) (a' := ?_) #[true, true, false, false, false, false, false, false, false, false, false, false, false, false, false, false, false, false, false, false, false, false, false, false, false] rfl rfl (any_of HT_.out (by kernel_rfl)) (fun _ _ _ h => h) (Or.inl ⟨by rfl, ?_⟩) ?_ ?_
  rotate_left
  · intro w'
    go_simp
    with_reducible rfl
  rotate_left
  · simp only [Act.put, List.setIfInBounds_toArray, List.set_cons_zero, List.set_cons_succ]
    rfl
  refine pure_ (i := 2) (N := some 28) (v := ?_) (a' := ?_) #[true, true, true, false, false, false, false, false, false, false, false, false, false, false, false, false, false, false, false, false, false, false, false, false, false] rfl rfl (any_of HT_.out (by kernel_rfl)) (fun _ _ _ h => h) (Or.inl ⟨by rfl, ?_⟩) ?_ ?_
  rotate_left
  · intro w'
    go_simp
    with_reducible rfl
  rotate_left
  · simp only [Act.put, List.setIfInBounds_toArray, List.set_cons_zero, List.set_cons_succ]
    rfl
  refine one_ (i := 3) (N := some 29) #[true, true, true, true, false, false, false, false, false, false, false, false, false, false, false, false, false, false, false, false, false, false, false, false, false] rfl rfl (one_of HT_.out (by kernel_rfl)) (by decide) (fun Kq_ hK_ => ?_)
  refine goes_ Try.func14 (by kernel_rfl) rfl #[.slice A0 m0 c0, .slice A1 m1 c1] (by rfl) rfl rfl (by (try simp only [List.map_toArray, List.map_cons, List.map_nil]); first | done | rfl) ?_
  with_reducible refine (refxor_any A0 m0 _ _ A1 m1 _ _ _ (Kd.C_below HR0.out HB.out) (Kd.C_below HR1.out HB.out) (by omega) (by omega) HY.out.1 HY.out.2).mono ?_
  rintro e w4 ⟨v4, rfl, ho, hb⟩
  refine ⟨_, rfl, ?_⟩
  obtain ⟨A4, c4, rfl, hcap4, hr4⟩ := Ow_slice ho
  have HR4 := Aside0.mk hr4
  replace HT := Aside0.mk (Kd.C_below HT.out hb)
  replace HRx := Aside0.mk (Kd.C_below HRx.out hb)
  replace HW := Aside0.mk (Kd.R_below HW.out hb)
  replace HOx := Aside0.mk (Kd.R_below HOx.out hb)
  replace HB := Aside0.mk (HB.out.trans (hb.mono HB.out.size))
  clear ho hb hr4
  refine hK_.out _ _ trivial (fun hHeld => ?_)
  clear hK_ Kq_
  refine norm_ (a' := ?_) ?_ ?_
  rotate_left
  · show Act.put _ (some 29) _ = _
    simp only [Act.put, List.setIfInBounds_toArray, List.set_cons_zero, List.set_cons_succ]
    rfl
  refine one_ (i := 4) (N := some 30) #[true, true, true, true, true, false, false, false, false, false, false, false, false, false, false, false, false, false, false, false, false, false, false, false, false] rfl rfl (one_of HT_.out (by kernel_rfl)) (by decide) (fun Kq_ hK_ => ?_)
  refine goes_ Try.func13 (by kernel_rfl) rfl #[.slice Ax (xorS a b).length cx, .slice A4 (xorS a b).length c4] (by rfl) rfl rfl (by (try simp only [List.map_toArray, List.map_cons, List.map_nil]); first | done | rfl) ?_
  with_reducible refine (same_yes _ _ _ _ _ _ _ _ _ HRx.out HR4.out rfl).mono ?_
  rintro e w5 ⟨rfl, hd⟩
  refine ⟨_, rfl, ?_⟩
  have hb := hd.below
  replace HT := Aside0.mk (Kd.C_below HT.out hb)
  replace HRx := Aside0.mk (Kd.C_below HRx.out hb)
  replace HW := Aside0.mk (Kd.R_below HW.out hb)
  replace HOx := Aside0.mk (Kd.R_below HOx.out hb)
  replace HB := Aside0.mk (drawn_below HB.out hd)
  clear hd hb
  refine hK_.out _ _ trivial (fun hHeld => ?_)
  clear hK_ Kq_
  refine norm_ (a' := ?_) ?_ ?_
  rotate_left
  · show Act.put _ (some 30) _ = _
    simp only [Act.put, List.setIfInBounds_toArray, List.set_cons_zero, List.set_cons_succ]
    rfl
  refine pure_ (i := 5) (N := some 31) (v := ?_) (a' := ?_) #[true, true, true, true, true, true, false, false, false, false, false, false, false, false, false, false, false, false, false, false, false, false, false, false, false] rfl rfl (any_of HT_.out (by kernel_rfl)) (fun _ _ _ h => h) (Or.inl ⟨by rfl, ?_⟩) ?_ ?_
  rotate_left
  · intro w'
    go_simp
    with_reducible rfl
  rotate_left
  · simp only [Act.put, List.setIfInBounds_toArray, List.set_cons_zero, List.set_cons_succ]
    rfl
  refine pure_ (i := 6) (N := some 32) (v := ?_) (a' := ?_) #[true, true, true, true, true, true, true, false, false, false, false, false, false, false, false, false, false, false, false, false, false, false, false, false, false] rfl rfl (any_of HT_.out (by kernel_rfl)) (fun _ _ _ h => h) (Or.inl ⟨by rfl, ?_⟩) ?_ ?_
  rotate_left
  · intro w'
    go_simp
    with_reducible rfl
  rotate_left
  · simp only [Act.put, List.setIfInBounds_toArray, List.set_cons_zero, List.set_cons_succ]
    rfl
  refine pure_ (i := 7) (N := some 33) (v := ?_) (a' := ?_) #[true, true, true, true, true, true, true, true, false, false, false, false, false, false, false, false, false, false, false, false, false, false, false, false, false] rfl rfl (any_of HT_.out (by kernel_rfl)) (fun _ _ _ h => h) (Or.inl ⟨by rfl, ?_⟩) ?_ ?_
  rotate_left
  · intro w'
    go_simp
    with_reducible rfl
  rotate_left
  · simp only [Act.put, List.setIfInBounds_toArray, List.set_cons_zero, List.set_cons_succ]
    rfl
  refine pure_ (i := 8) (N := some 34) (v := ?_) (a' := ?_) #[true, true, true, true, true, true, true, true, true, false, false, false, false, false, false, false, false, false, false, false, false, false, false, false, false] rfl rfl (any_of HT_.out (by kernel_rfl)) (fun _ _ _ h => h) (Or.inl ⟨by rfl, ?_⟩) ?_ ?_
  rotate_left
  · intro w'
    go_simp
    with_reducible rfl
  rotate_left
  · simp only [Act.put, List.setIfInBounds_toArray, List.set_cons_zero, List.set_cons_succ]
    rfl
  refine pure_ (i := 10) (N := some 36) (v := ?_) (a' := ?_) #[true, true, true, true, true, true, true, true, true, false, true, false, false, false, false, false, false, false, false, false, false, false, false, false, false] rfl rfl (any_of HT_.out (by kernel_rfl)) (fun _ _ _ h => h) (Or.inl ⟨by rfl, ?_⟩) ?_ ?_
  rotate_left
  · intro w'
    go_simp
    with_reducible rfl
  rotate_left
  · simp only [Act.put, List.setIfInBounds_toArray, List.set_cons_zero, List.set_cons_succ]
    rfl
  refine one_ (i := 9) (N := some 35) #[true, true, true, true, true, true, true, true, true, true, true, false, false, false, false, false, false, false, false, false, false, false, false, false, false] rfl rfl (one_of HT_.out (by kernel_rfl)) (by decide) (fun Kq_ hK_ => ?_)
  refine goes_ Try.func12 (by kernel_rfl) rfl #[.slice A1 m1 c1, .slice A0 m0 c0] (by rfl) rfl rfl (by (try simp only [List.map_toArray, List.map_cons, List.map_nil]); first | done | rfl) ?_
  with_reducible refine (xor_any A1 m1 _ _ A0 m0 _ _ _ (Kd.C_below HR1.out HB.out) (Kd.C_below HR0.out HB.out) (by omega) (by omega)).mono ?_
  rintro e w6 ⟨v6, rfl, ho, hb⟩
  refine ⟨_, rfl, ?_⟩
  obtain ⟨A6, c6, rfl, hcap6, hr6⟩ := Ow_slice ho
  have HR6 := Aside0.mk hr6
  replace HT := Aside0.mk (Kd.C_below HT.out hb)
  replace HRx := Aside0.mk (Kd.C_below HRx.out hb)
  replace HW := Aside0.mk (Kd.R_below HW.out hb)
  replace HOx := Aside0.mk (Kd.R_below HOx.out hb)
  replace HB := Aside0.mk (HB.out.trans (hb.mono HB.out.size))
  clear ho hb hr6
  refine hK_.out _ _ trivial (fun hHeld => ?_)
  clear hK_ Kq_
  refine norm_ (a' := ?_) ?_ ?_
  rotate_left
  · show Act.put _ (some 35) _ = _
    simp only [Act.put, List.setIfInBounds_toArray, List.set_cons_zero, List.set_cons_succ]
    rfl
  refine one_ (i := 11) (N := some 37) #[true, true, true, true, true, true, true, true, true, true, true, true, false, false, false, false, false, false, false, false, false, false, false, false, false] rfl rfl (one_of HT_.out (by kernel_rfl)) (by decide) (fun Kq_ hK_ => ?_)
  refine goes_ Try.func13 (by kernel_rfl) rfl #[.slice A6 (xorS b a).length c6, .slice Ax (xorS a b).length cx] (by rfl) rfl rfl (by (try simp only [List.map_toArray, List.map_cons, List.map_nil]); first | done | rfl) ?_
  with_reducible refine (same_yes _ _ _ _ _ _ _ _ _ HR6.out HRx.out HE1.out).mono ?_
  rintro e w7 ⟨rfl, hd⟩
  refine ⟨_, rfl, ?_⟩
  have hb := hd.below
  replace HT := Aside0.mk (Kd.C_below HT.out hb)
  replace HRx := Aside0.mk (Kd.C_below HRx.out hb)
  replace HW := Aside0.mk (Kd.R_below HW.out hb)
  replace HOx := Aside0.mk (Kd.R_below HOx.out hb)
  replace HB := Aside0.mk (drawn_below HB.out hd)
  clear hd hb
  refine hK_.out _ _ trivial (fun hHeld => ?_)
  clear hK_ Kq_
  refine norm_ (a' := ?_) ?_ ?_
  rotate_left
  · show Act.put _ (some 37) _ = _
    simp only [Act.put, List.setIfInBounds_toArray, List.set_cons_zero, List.set_cons_succ]
    rfl
  refine pure_ (i := 12) (N := some 38) (v := ?_) (a' := ?_) #[true, true, true, true, true, true, true, true, true, true, true, true, true, false, false, false, false, false, false, false, false, false, false, false, false] rfl rfl (any_of HT_.out (by kernel_rfl)) (fun _ _ _ h => h) (Or.inl ⟨by rfl, ?_⟩) ?_ ?_
  rotate_left
  · intro w'
    go_simp
    with_reducible rfl
  rotate_left
  · simp only [Act.put, List.setIfInBounds_toArray, List.set_cons_zero, List.set_cons_succ]
    rfl
  refine pure_ (i := 13) (N := some 39) (v := ?_) (a' := ?_) #[true, true, true, true, true, true, true, true, true, true, true, true, true, true, false, false, false, false, false, false, false, false, false, false, false] rfl rfl (any_of HT_.out (by kernel_rfl)) (fun _ _ _ h => h) (Or.inl ⟨by rfl, ?_⟩) ?_ ?_
  rotate_left
  · intro w'
    go_simp
    with_reducible rfl
  rotate_left
  · simp only [Act.put, List.setIfInBounds_toArray, List.set_cons_zero, List.set_cons_succ]
    rfl
  refine pure_ (i := 14) (N := some 40) (v := ?_) (a' := ?_) #[true, true, true, true, true, true, true, true, true, true, true, true, true, true, true, false, false, false, false, false, false, false, false, false, false] rfl rfl (any_of HT_.out (by kernel_rfl)) (fun _ _ _ h => h) (Or.inl ⟨by rfl, ?_⟩) ?_ ?_
  rotate_left
  · intro w'
    go_simp
    with_reducible rfl
  rotate_left
  · simp only [Act.put, List.setIfInBounds_toArray, List.set_cons_zero, List.set_cons_succ]
    rfl
  refine pure_ (i := 15) (N := some 41) (v := ?_) (a' := ?_) #[true, true, true, true, true, true, true, true, true, true, true, true, true, true, true, true, false, false, false, false, false, false, false, false, false] rfl rfl (any_of HT_.out (by kernel_rfl)) (fun _ _ _ h => h) (Or.inl ⟨by rfl, ?_⟩) ?_ ?_
  rotate_left
  · intro w'
    go_simp
    with_reducible rfl
  rotate_left
  · simp only [Act.put, List.setIfInBounds_toArray, List.set_cons_zero, List.set_cons_succ]
    rfl
  refine pure_ (i := 16) (N := some 42) (v := ?_) (a' := ?_) #[true, true, true, true, true, true, true, true, true, true, true, true, true, true, true, true, true, false, false, false, false, false, false, false, false] rfl rfl (any_of HT_.out (by kernel_rfl)) (fun _ _ _ h => h) (Or.inl ⟨by rfl, ?_⟩) ?_ ?_
  rotate_left
  · intro w'
    go_simp
    with_reducible rfl
  rotate_left
  · simp only [Act.put, List.setIfInBounds_toArray, List.set_cons_zero, List.set_cons_succ]
    rfl
  refine pure_ (i := 18) (N := some 44) (v := ?_) (a' := ?_) #[true, true, true, true, true, true, true, true, true, true, true, true, true, true, true, true, true, false, true, false, false, false, false, false, false] rfl rfl (any_of HT_.out (by kernel_rfl)) (fun _ _ _ h => h) (Or.inl ⟨by rfl, ?_⟩) ?_ ?_
  rotate_left
  · intro w'
    go_simp
    with_reducible rfl
  rotate_left
  · simp only [Act.put, List.setIfInBounds_toArray, List.set_cons_zero, List.set_cons_succ]
    rfl
  refine pure_ (i := 19) (N := some 45) (v := ?_) (a' := ?_) #[true, true, true, true, true, true, true, true, true, true, true, true, true, true, true, true, true, false, true, true, false, false, false, false, false] rfl rfl (any_of HT_.out (by kernel_rfl)) (fun _ _ _ h => h) (Or.inl ⟨by rfl, ?_⟩) ?_ ?_
  rotate_left
  · intro w'
    go_simp
    with_reducible rfl
  rotate_left
  · simp only [Act.put, List.setIfInBounds_toArray, List.set_cons_zero, List.set_cons_succ]
    rfl
  refine pure_ (i := 20) (N := some 46) (v := ?_) (a' := ?_) #[true, true, true, true, true, true, true, true, true, true, true, true, true, true, true, true, true, false, true, true, true, false, false, false, false] rfl rfl (any_of HT_.out (by kernel_rfl)) (fun _ _ _ h => h) (Or.inl ⟨by rfl, ?_⟩) ?_ ?_
  rotate_left
  · intro w'
    go_simp
    with_reducible rfl
  rotate_left
  · simp only [Act.put, List.setIfInBounds_toArray, List.set_cons_zero, List.set_cons_succ]
    rfl
  refine pure_ (i := 21) (N := some 47) (v := ?_) (a' := ?_) #[true, true, true, true, true, true, true, true, true, true, true, true, true, true, true, true, true, false, true, true, true, true, false, false, false] rfl rfl (any_of HT_.out (by kernel_rfl)) (fun _ _ _ h => h) (Or.inl ⟨by rfl, ?_⟩) ?_ ?_
  rotate_left
  · intro w'
    go_simp
    with_reducible rfl
  rotate_left
  · simp only [Act.put, List.setIfInBounds_toArray, List.set_cons_zero, List.set_cons_succ]
    rfl
  refine one_ (i := 17) (N := some 43) #[true, true, true, true, true, true, true, true, true, true, true, true, true, true, true, true, true, true, true, true, true, true, false, false, false] rfl rfl (one_of HT_.out (by kernel_rfl)) (by decide) (fun Kq_ hK_ => ?_)
  refine goes_ Try.func12 (by kernel_rfl) rfl #[.slice Ax (xorS a b).length cx, .slice A1 m1 c1] (by rfl) rfl rfl (by (try simp only [List.map_toArray, List.map_cons, List.map_nil]); first | done | rfl) ?_
  with_reducible refine (xor_any Ax _ _ _ A1 m1 _ _ _ HRx.out (Kd.C_below HR1.out HB.out) (by have := HX.out; omega) (by omega)).mono ?_
  rintro e w8 ⟨v8, rfl, ho, hb⟩
  refine ⟨_, rfl, ?_⟩
  obtain ⟨A8, c8, rfl, hcap8, hr8⟩ := Ow_slice ho
  have HR8 := Aside0.mk hr8
  replace HT := Aside0.mk (Kd.C_below HT.out hb)
  replace HRx := Aside0.mk (Kd.C_below HRx.out hb)
  replace HW := Aside0.mk (Kd.R_below HW.out hb)
  replace HOx := Aside0.mk (Kd.R_below HOx.out hb)
  replace HB := Aside0.mk (HB.out.trans (hb.mono HB.out.size))
  clear ho hb hr8
  refine hK_.out _ _ trivial (fun hHeld => ?_)
  clear hK_ Kq_
  refine norm_ (a' := ?_) ?_ ?_
  rotate_left
  · show Act.put _ (some 43) _ = _
    simp only [Act.put, List.setIfInBounds_toArray, List.set_cons_zero, List.set_cons_succ]
    rfl
  refine one_ (i := 22) (N := some 48) #[true, true, true, true, true, true, true, true, true, true, true, true, true, true, true, true, true, true, true, true, true, true, true, false, false] rfl rfl (one_of HT_.out (by kernel_rfl)) (by decide) (fun Kq_ hK_ => ?_)
  refine goes_ Try.func13 (by kernel_rfl) rfl #[.slice A8 (xorS (xorS a b) b).length c8, .slice A0 (xorS a b).length c0] (by rfl) rfl rfl (by (try simp only [List.map_toArray, List.map_cons, List.map_nil]); first | done | rfl) ?_
  with_reducible refine (same_yes _ _ _ _ _ _ _ _ _ HR8.out HT.out HE2.out).mono ?_
  rintro e w9 ⟨rfl, hd⟩
  refine ⟨_, rfl, ?_⟩
  have hb := hd.below
  replace HT := Aside0.mk (Kd.C_below HT.out hb)
  replace HRx := Aside0.mk (Kd.C_below HRx.out hb)
  replace HW := Aside0.mk (Kd.R_below HW.out hb)
  replace HOx := Aside0.mk (Kd.R_below HOx.out hb)
  replace HB := Aside0.mk (drawn_below HB.out hd)
  clear hd hb
  refine hK_.out _ _ trivial (fun hHeld => ?_)
  clear hK_ Kq_
  refine norm_ (a' := ?_) ?_ ?_
  rotate_left
  · show Act.put _ (some 48) _ = _
    simp only [Act.put, List.setIfInBounds_toArray, List.set_cons_zero, List.set_cons_succ]
    rfl
  refine pure_ (i := 23) (N := some 49) (v := ?_) (a' := ?_) #[true, true, true, true, true, true, true, true, true, true, true, true, true, true, true, true, true, true, true, true, true, true, true, true, false] rfl rfl (any_of HT_.out (by kernel_rfl)) (fun _ _ _ h => h) (Or.inl ⟨by rfl, ?_⟩) ?_ ?_
  rotate_left
  · intro w'
    go_simp
    with_reducible rfl
  rotate_left
  · simp only [Act.put, List.setIfInBounds_toArray, List.set_cons_zero, List.set_cons_succ]
    rfl
  refine pure_ (i := 24) (N := some 50) (v := ?_) (a' := ?_) #[true, true, true, true, true, true, true, true, true, true, true, true, true, true, true, true, true, true, true, true, true, true, true, true, true] rfl rfl (any_of HT_.out (by kernel_rfl)) (fun _ _ _ h => h) (Or.inl ⟨by rfl, ?_⟩) ?_ ?_
  rotate_left
  · intro w'
    go_simp
    with_reducible rfl
  rotate_left
  · simp only [Act.put, List.setIfInBounds_toArray, List.set_cons_zero, List.set_cons_succ]
    rfl
  refine done_ (done_of HT_.out (by kernel_rfl)) ?_
  clear HT HR4 HR6 HR8 HRx HE1 HE2 ct
  have HXL := Aside0.mk hcapx
  clear hcapx
  go_wp2_with (go_at_call 12; refine (xor_any A0 m0 _ _ A0 m0 _ _ _ (Kd.C_below HR0.out HB.out) (Kd.C_below HR0.out HB.out) (by omega) (by omega)).mono ?_; rintro e wz ⟨vz, rfl, ho, hb⟩; rw [HE3.out] at ho; have n1 := Aside0.mk (Kd.R_elder' HW.out (Kd.R_base ho) hb); have n2 := Aside0.mk (Kd.R_elder' HOx.out (Kd.R_base ho) hb); obtain ⟨Az, cz, rfl⟩ := Kd.R_slice ho; have HOz := Aside0.mk (Kd.R_lower ho HB.out.size); replace HB := Aside0.mk (HB.out.trans (hb.mono HB.out.size)); clear ho hb HW HOx; have HW := n1; have HOx := n2; clear n1 n2)
  rw [List.length_replicate] at HOz HW HOx
  rw [List.nil_append] at HW
  clear HT_ hHeld HX HXL
  go_loopg [8] m0 (fun gk v8 w' => ∃ i : Nat, v8 = .int .i64 i ∧ i + gk = m0 ∧ Aside0 (OwB w' w.heap.size (.slice Az m0 cz) (List.replicate i 9 ++ List.replicate (m0 - i) 0)) ∧
    Aside0 (Kd.R (Kd.int .u8) 5 w' w.heap.size (fun k => (True ∧ some k ≠ (Value.slice Ax (xorS a b).length cx).ownBlock) ∧ some k ≠ (Value.slice Az m0 cz).ownBlock) v3 a) ∧
    Aside0 (Kd.R (Kd.int .u8) 5 w' w.heap.size (fun k => True ∧ some k ≠ (Value.slice Az m0 cz).ownBlock) (.slice Ax (xorS a b).length cx) (xorS a b)) ∧ Aside0 (Below w.heap.size w w'))
  case atStart => exact ⟨0, rfl, by omega, by simpa using HOz, HW, HOx, HB⟩
  case round =>
    clear HB HOz HW HOx
    obtain ⟨i, rfl, hi, HOz, HW, HOx, HB⟩ := hrel
    by_cases hlt : i < m0
    · have hl : (List.replicate i (9 : Int) ++ List.replicate (m0 - i) 0).length = m0 := by simp; omega
      obtain ⟨g, c', eo, gb, gl, cl, HG⟩ := Kd.R_form HOz.out (by omega)
      injection eo with ea en ec
      subst ea ec
      clear en
      have hn0 : nth (List.replicate i (9 : Int) ++ List.replicate (m0 - i) 0) i = 0 := by
        rw [nth_eq (by omega)]
        rw [List.getElem_append_right (by simp)]
        simp
      obtain ⟨hc, hf⟩ := R_at HOz.out i hlt
      rw [hn0] at hc
      have hset : (List.replicate i (9 : Int) ++ List.replicate (m0 - i) 0).set i 9 = List.replicate (i + 1) 9 ++ List.replicate (m0 - (i + 1)) 0 := by
        rw [List.set_append_right _ _ (by simp)]
        obtain ⟨q, hq⟩ : ∃ q, m0 - i = q + 1 := ⟨m0 - i - 1, by omega⟩
        rw [List.length_replicate, Nat.sub_self, hq, List.replicate_succ, List.set_cons_zero, List.replicate_succ', List.append_assoc, show m0 - (i + 1) = q by omega]
        rfl
      have HP := Aside0.mk (R_put' HOz.out i 9)
      have HS := Aside0.mk hset
      have H2 := Aside0.mk (R_set_far (g := g) (i := i) (u := .int .u8 9) HW.out (fun k hk he => by subst he; exact hk.2 (by simp [Value.ownBlock])))
      have H3 := Aside0.mk (R_set_far (g := g) (i := i) (u := .int .u8 9) HOx.out (fun k hk he => by subst he; exact hk.2 (by simp [Value.ownBlock])))
      clear hl hn0 hset HW HOx HOz
      go_wp2
      go_roundg (gk - 1)
      case measure => omega
      case rel => exact ⟨i + 1, rfl, by omega, ⟨by rw [← HS.out]; exact HP.out⟩, H2, H3, ⟨below_set HB.out gb⟩⟩
    · obtain rfl : m0 = i := by omega
      clear HOz
      obtain ⟨wo, rfl⟩ : ∃ wo : World, wo = wr := ⟨_, rfl⟩
      obtain ⟨n, hn⟩ : ∃ n, n = (xorS a b).length := ⟨_, rfl⟩
      obtain ⟨ys, hys⟩ : ∃ ys, ys = xorS a b := ⟨_, rfl⟩
      have HN : Aside0 (ys.length = n) := ⟨by rw [hys, hn]⟩
      rw [← hn, ← hys] at HOx
      rw [← hn] at HW
      rw [← hn]
      have hnm : n ≤ 9223372036854775807 := by have := (Kd.R_reads' HOx.out).2.2.2.1; have := HN.out; omega
      clear hn hys
      go_wp2
      go_loopg [9] n (fun gk v9 w' => ∃ (i : Nat) (y : List Int), v9 = .int .i64 i ∧ i + gk = n ∧ Aside0 (y.length = n) ∧ Aside0 (Kd.R (Kd.int .u8) 5 w' w.heap.size (fun k => True ∧ some k ≠ (Value.slice Az m0 cz).ownBlock) (.slice Ax n cx) y) ∧
        Aside0 (Kd.R (Kd.int .u8) 5 w' w.heap.size (fun k => (True ∧ some k ≠ (Value.slice Ax n cx).ownBlock) ∧ some k ≠ (Value.slice Az m0 cz).ownBlock) v3 a) ∧ Aside0 (Below w.heap.size w w'))
      case atStart => exact ⟨0, ys, rfl, by omega, HN, HOx, HW, HB⟩
      case round =>
        clear HB HW HOx
        obtain ⟨i, y, rfl, hi, HY, HOx, HW, HB⟩ := hrel
        by_cases hlt : i < n
        · obtain ⟨g, c', eo, gb, gl, cl, HG⟩ := Kd.R_form HOx.out (by rw [HY.out]; omega)
          injection eo with ea en ec
          subst ea ec
          clear en
          obtain ⟨hc, hf⟩ := R_at HOx.out i hlt
          have HP := Aside0.mk (R_put' HOx.out i ((nth y i + 1) % 256))
          have H2 := Aside0.mk (R_set_far (g := g) (i := i) (u := .int .u8 ((nth y i + 1) % 256)) HW.out (fun k hk he => by subst he; exact hk.1.2 (by simp [Value.ownBlock])))
          clear HW HOx
          go_wp2
          go_roundg (gk - 1)
          case measure => omega
          case rel => exact ⟨i + 1, _, rfl, by omega, ⟨by rw [List.length_set]; exact HY.out⟩, HP, H2, ⟨below_set HB.out gb⟩⟩
        · obtain rfl : n = i := by omega
          obtain ⟨A3, c3, rfl⟩ := Kd.R_slice HW.out
          have HR3 := Aside0.mk (Kd.R_reads' HW.out).2.2
          go_wp2_with (go_at_call 13; refine (same_yes _ _ _ _ _ _ _ _ _ (Kd.C_below HR0.out HB.out) HR3.out rfl).mono ?_; rintro e w20 ⟨rfl, hd⟩; replace HB := Aside0.mk (drawn_below HB.out hd); clear hd)
          go_ret
          exact ⟨rfl, HB.out⟩
end Go.Proofs.Ytfbbnodlikcocaa.LawXors
