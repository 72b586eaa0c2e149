/- What the frames of layer 1 (wire) and of its reference answer: Frame, Parts, Rows. Conditions stand in each statement. -/
import Derived.Test.YtfbbnodlikcocaaWire
import Derived.IntWalk
namespace Go.Proofs.Ytfbbnodlikcocaa.Wire
open Go.RowKit Go.Proofs.YtfbbnodlikcocaaW.PrintWords Go.Proofs.YtfbbnodlikcocaaW.PrintLast Go.Proofs.YtfbbnodlikcocaaW.PrintMore Go.Proofs.Ytfbbnodlikcocaa.Kit Go.Proofs.Ytfbbnodlikcocaa.Plain
set_option linter.unusedVariables false
set_option linter.unusedSimpArgs false

def tabF7 : Bool × List (List Nat × List Nat) := (true, [([], []), ([], []), ([], []), ([1, 2], [1, 2]), ([3], [3]), ([4], [4]), ([5], [5]), ([6], [6]), ([], []), ([], []), ([8, 9], [8, 9]), ([10], [10]), ([11], [11]), ([12], [12]), ([13], [13]), ([7, 14], [7, 14]), ([0, 15], [0, 15]), ([16, 16, 0, 1, 2, 3, 4, 5, 6, 7, 8, 9, 10, 11, 12, 13, 14, 15, 16], [0, 16])])
theorem tabF7_ok : rtab .any (opsOf Try.f20 7) = tabF7 := by kernel_rfl
set_option maxHeartbeats 1600000 in
set_option maxRecDepth 100000 in
theorem refframe_yes (A : Option Addr) (n c : Nat) (l : List (List Int)) (w : World) (hr : Kd.C Rw w A n l) (hp : ∀ p ∈ l, p.length ≤ 65535) (hl : n ≤ 1000000) :
    Calls Try.prog 20 #[.slice A n c] w fun e w' => ∃ v, e = .returned (.tuple #[v, .bool true]) ∧ OwB w' w.heap.size v (frm l) ∧ Below w.heap.size w w' := by
  obtain rfl := C_len hr
  have HR := Aside0.mk hr
  clear hr
  have HB := Aside0.mk (Below.refl w.heap.size w)
  go_enter Try.func20, Try.ntmps20
  go_wp2
  go_loopg [4, 5] l.length (fun gk v4 v5 w' => ∃ (i : Nat) (y : List Int), v5 = .int .i64 i ∧ i + gk = l.length ∧ Aside0 (y = frm (l.take i)) ∧ Aside0 (OwB w' w.heap.size v4 y) ∧ Aside0 (Below w.heap.size w w'))
  case atStart => exact ⟨0, [], rfl, by omega, ⟨rfl⟩, ⟨Kd.R_nil _ _ _ _ _⟩, HB⟩
  case round =>
    clear HB
    obtain ⟨i, y, rfl, hi, HY, HO, HB⟩ := hrel
    by_cases hlt : i < l.length
    · obtain ⟨ad, A0, c0, rfl, hcw, hl0, hr0⟩ := C_row HR.out i hlt
      have HR0 := Aside0.mk hr0
      have hpl : (nthR l i).length ≤ 65535 := hp _ (nthR_mem hlt)
      have HL : Aside0 (y.length ≤ i * 65537) := ⟨by
        rw [HY.out]
        refine Nat.le_trans (frm_len (m := 65535) (fun p hq => hp p (List.mem_of_mem_take hq))) ?_
        rw [List.length_take]
        exact Nat.mul_le_mul_right _ (by omega)⟩
      obtain ⟨p, hpe⟩ : ∃ p, p = nthR l i := ⟨_, rfl⟩
      rw [← hpe] at hcw hl0 HR0 hpl
      have HP := Aside0.mk hpe
      have HC := Aside0.mk hcw
      have hc := pw_cell_below HB.out hcw
      clear hr0 hl0 hpe hcw
      go_wp2_with (fail)
      clear hc
      have e1 : IntKind.i64.wrap ((p.length : Int) / 256) = (p.length : Int) / 256 := IntWalk.i64_in _ (by omega)
      have e2 : IntKind.u8.wrap ((p.length : Int) / 256) = (p.length : Int) / 256 := IntWalk.u8_in _ (by omega)
      have e3 : (p.length : Int).tmod 256 = (p.length : Int) % 256 := Int.tmod_eq_emod_of_nonneg (by omega)
      have e4 : IntKind.u8.wrap ((p.length : Int) % 256) = (p.length : Int) % 256 := IntWalk.u8_in _ (by omega)
      have EP : Aside0 (prt p = [(p.length : Int) / 256, (p.length : Int) % 256] ++ p) := ⟨by
        rw [prt, put_snoc, put_snoc]
        simp [put]
        omega⟩
      refine start_ (n := 18) (S := fun w' => w'.cell? (ad.add i) = some (.slice A0 p.length c0)) (ds := []) #[false, false, false, false, false, false, false, false, false, false, false, false, false, false, false, false, false, false] (by kernel_rfl) rfl rfl (pw_cell_below (below_drew HB.out) HC.out) (fun hHeld => ?_); refine with_tab tabF7_ok (fun HT_ => ?_)
      have hb : Below wr.heap.size wr wr.drew := below_drew (Below.refl _ _)
      replace HO := Aside0.mk (Kd.R_below HO.out hb)
      replace HB := Aside0.mk (HB.out.trans (hb.mono HB.out.size))
      clear hb
      refine pure_ (i := 0) (N := some 18) (v := ?_) (a' := ?_) #[true, false, false, false, false, false, false, false, false, false, false, false, false, false, false, false, false, false] rfl rfl (any_of HT_.out (by kernel_rfl)) (fun _ _ _ h => h) (Or.inl ⟨by rfl, ?_⟩) ?_ ?_
      rotate_left
      · intro w'
        go_simp
        with_reducible rfl
      rotate_left
      · simp only [Act.put, List.setIfInBounds_toArray, List.set_cons_zero, List.set_cons_succ]
        rfl
      refine pure_ (i := 1) (N := some 19) (v := ?_) (a' := ?_) #[true, true, false, false, false, false, false, false, false, false, false, false, false, false, false, false, false, false] rfl rfl (any_of HT_.out (by kernel_rfl)) (fun _ _ _ h => h) (Or.inl ⟨by rfl, ?_⟩) ?_ ?_
      rotate_left
      · intro w'
        go_simp
        with_reducible rfl
      rotate_left
      · simp only [Act.put, List.setIfInBounds_toArray, List.set_cons_zero, List.set_cons_succ]
        rfl
      refine pure_ (i := 2) (N := some 20) (v := ?_) (a' := ?_) #[true, true, true, false, false, false, false, false, false, false, false, false, false, false, false, false, false, false] rfl rfl (any_of HT_.out (by kernel_rfl)) (fun _ _ _ h => h) (Or.inl ⟨by rfl, ?_⟩) ?_ ?_
      rotate_left
      · intro w'
        go_simp
        with_reducible rfl
      rotate_left
      · simp only [Act.put, List.setIfInBounds_toArray, List.set_cons_zero, List.set_cons_succ]
        rfl
      refine pure_ (i := 3) (N := some 21) (v := ?_) (a' := ?_) #[true, true, true, true, false, false, false, false, false, false, false, false, false, false, false, false, false, false] rfl rfl (any_of HT_.out (by kernel_rfl)) (fun _ _ _ h => h) (Or.inl ⟨by rfl, ?_⟩) ?_ ?_
      rotate_left
      · intro w'
        go_simp
        with_reducible rfl
      rotate_left
      · simp only [Act.put, List.setIfInBounds_toArray, List.set_cons_zero, List.set_cons_succ]
        rfl
      refine take_ (i := 4) (N := some 22) (v := ?_) (a' := ?_) #[true, true, true, true, true, false, false, false, false, false, false, false, false, false, false, false, false, false] rfl rfl (take_of HT_.out (by kernel_rfl)) (fun _ _ _ h => h) (Or.inl ⟨by rfl, ?_⟩) hHeld ?_ ?_
      rotate_left
      · intro w' hw'
        
        go_simp
        with_reducible rfl
      rotate_left
      · simp only [Act.put, List.setIfInBounds_toArray, List.set_cons_zero, List.set_cons_succ]
        rfl
      refine pure_ (i := 5) (N := some 23) (v := ?_) (a' := ?_) #[true, true, true, true, true, true, false, false, false, false, false, false, false, false, false, false, false, false] rfl rfl (any_of HT_.out (by kernel_rfl)) (fun _ _ _ h => h) (Or.inl ⟨by rfl, ?_⟩) ?_ ?_
      rotate_left
      · intro w'
        go_simp
        with_reducible rfl
      rotate_left
      · simp only [Act.put, List.setIfInBounds_toArray, List.set_cons_zero, List.set_cons_succ]
        rfl
      refine pure_ (i := 6) (N := some 24) (v := ?_) (a' := ?_) #[true, true, true, true, true, true, true, false, false, false, false, false, false, false, false, false, false, false] rfl rfl (any_of HT_.out (by kernel_rfl)) (fun _ _ _ h => h) (Or.inl ⟨by rfl, ?_⟩) ?_ ?_
      rotate_left
      · intro w'
        go_simp
        with_reducible rfl
      rotate_left
      · simp only [Act.put, List.setIfInBounds_toArray, List.set_cons_zero, List.set_cons_succ]
        rfl
      refine pure_ (i := 7) (N := some 25) (v := ?_) (a' := ?_) #[true, true, true, true, true, true, true, true, false, false, false, false, false, false, false, false, false, false] rfl rfl (any_of HT_.out (by kernel_rfl)) (fun _ _ _ h => h) (Or.inl ⟨by rfl, ?_⟩) ?_ ?_
      rotate_left
      · intro w'
        go_simp
        with_reducible rfl
      rotate_left
      · simp only [Act.put, List.setIfInBounds_toArray, List.set_cons_zero, List.set_cons_succ]
        rfl
      refine pure_ (i := 8) (N := some 26) (v := ?_) (a' := ?_) #[true, true, true, true, true, true, true, true, true, false, false, false, false, false, false, false, false, false] rfl rfl (any_of HT_.out (by kernel_rfl)) (fun _ _ _ h => h) (Or.inl ⟨by rfl, ?_⟩) ?_ ?_
      rotate_left
      · intro w'
        go_simp
        with_reducible rfl
      rotate_left
      · simp only [Act.put, List.setIfInBounds_toArray, List.set_cons_zero, List.set_cons_succ]
        rfl
      refine pure_ (i := 9) (N := some 27) (v := ?_) (a' := ?_) #[true, true, true, true, true, true, true, true, true, true, false, false, false, false, false, false, false, false] rfl rfl (any_of HT_.out (by kernel_rfl)) (fun _ _ _ h => h) (Or.inl ⟨by rfl, ?_⟩) ?_ ?_
      rotate_left
      · intro w'
        go_simp
        with_reducible rfl
      rotate_left
      · simp only [Act.put, List.setIfInBounds_toArray, List.set_cons_zero, List.set_cons_succ]
        rfl
      refine pure_ (i := 10) (N := some 28) (v := ?_) (a' := ?_) #[true, true, true, true, true, true, true, true, true, true, true, false, false, false, false, false, false, false] rfl rfl (any_of HT_.out (by kernel_rfl)) (fun _ _ _ h => h) (Or.inl ⟨by rfl, ?_⟩) ?_ ?_
      rotate_left
      · intro w'
        go_simp
        with_reducible rfl
      rotate_left
      · simp only [Act.put, List.setIfInBounds_toArray, List.set_cons_zero, List.set_cons_succ]
        rfl
      refine take_ (i := 11) (N := some 29) (v := ?_) (a' := ?_) #[true, true, true, true, true, true, true, true, true, true, true, true, false, false, false, false, false, false] rfl rfl (take_of HT_.out (by kernel_rfl)) (fun _ _ _ h => h) (Or.inl ⟨by rfl, ?_⟩) hHeld ?_ ?_
      rotate_left
      · intro w' hw'
        
        go_simp
        with_reducible rfl
      rotate_left
      · simp only [Act.put, List.setIfInBounds_toArray, List.set_cons_zero, List.set_cons_succ]
        rfl
      refine pure_ (i := 12) (N := some 30) (v := ?_) (a' := ?_) #[true, true, true, true, true, true, true, true, true, true, true, true, true, false, false, false, false, false] rfl rfl (any_of HT_.out (by kernel_rfl)) (fun _ _ _ h => h) (Or.inl ⟨by rfl, ?_⟩) ?_ ?_
      rotate_left
      · intro w'
        go_simp
        with_reducible rfl
      rotate_left
      · simp only [Act.put, List.setIfInBounds_toArray, List.set_cons_zero, List.set_cons_succ]
        rfl
      refine pure_ (i := 13) (N := some 31) (v := ?_) (a' := ?_) #[true, true, true, true, true, true, true, true, true, true, true, true, true, true, false, false, false, false] rfl rfl (any_of HT_.out (by kernel_rfl)) (fun _ _ _ h => h) (Or.inl ⟨by rfl, ?_⟩) ?_ ?_
      rotate_left
      · intro w'
        go_simp
        with_reducible rfl
      rotate_left
      · simp only [Act.put, List.setIfInBounds_toArray, List.set_cons_zero, List.set_cons_succ]
        rfl
      refine pure_ (i := 14) (N := some 32) (v := ?_) (a' := ?_) #[true, true, true, true, true, true, true, true, true, true, true, true, true, true, true, false, false, false] rfl rfl (any_of HT_.out (by kernel_rfl)) (fun _ _ _ h => h) (Or.inl ⟨by rfl, ?_⟩) ?_ ?_
      rotate_left
      · intro w'
        go_simp
        with_reducible rfl
      rotate_left
      · simp only [Act.put, List.setIfInBounds_toArray, List.set_cons_zero, List.set_cons_succ]
        rfl
      refine one_ (i := 15) (N := some 33) #[true, true, true, true, true, true, true, true, true, true, true, true, true, true, true, true, false, false] rfl rfl (one_of HT_.out (by kernel_rfl)) (by decide) (fun Kq_ hK_ => ?_)
      refine litB_step w.heap.size (by rfl) (N := 33) rfl [(p.length : Int) / 256, (p.length : Int) % 256] ?hr HB.out HB.out.size (by simp) ?_
      (case hr => first | (go_simp; done) | (go_simp; rfl))
      intro v1 w1 ho hb0 hn hb
      replace HO := Aside0.mk (Kd.R_below HO.out hb)
      clear HB
      have HB := Aside0.mk hb0
      have HO1 := Aside0.mk ho
      obtain ⟨A1, c1, rfl, hcap1, hr1⟩ := Ow_slice ho
      have HR1 := Aside0.mk hr1
      clear hr1 ho hb hb0 hn
      refine hK_.out _ _ (pw_cell_below HB.out HC.out) (fun hHeld => ?_)
      clear hK_ Kq_
      refine norm_ (a' := ?_) ?_ ?_
      rotate_left
      · show Act.put _ (some 33) _ = _
        simp only [Act.put, List.setIfInBounds_toArray, List.set_cons_zero, List.set_cons_succ]
        rfl
      refine one_ (i := 16) (N := some 34) #[true, true, true, true, true, true, true, true, true, true, true, true, true, true, true, true, true, false] rfl rfl (one_of HT_.out (by kernel_rfl)) (by decide) (fun Kq_ hK_ => ?_)
      refine appB_step w.heap.size (by rfl) (.tmp 18) (.tmp 33) rfl rfl _ y [(p.length : Int) / 256, (p.length : Int) % 256] A1 2 c1 rfl rfl HO.out HR1.out HB.out HB.out.size (by have := HL.out; omega) ?_
      intro v2 w2 ho hb hg hat
      clear HB
      have HB := Aside0.mk hb
      have HO2 := Aside0.mk ho
      clear ho hb hg hat
      refine hK_.out _ _ (pw_cell_below HB.out HC.out) (fun hHeld => ?_)
      clear hK_ Kq_
      refine norm_ (a' := ?_) ?_ ?_
      rotate_left
      · show Act.put _ (some 34) _ = _
        simp only [Act.put, List.setIfInBounds_toArray, List.set_cons_zero, List.set_cons_succ]
        rfl
      refine pure_ (i := 17) (N := some 4) (v := ?_) (a' := ?_) #[true, true, true, true, true, true, true, true, true, true, true, true, true, true, true, true, true, true] rfl rfl (any_of HT_.out (by kernel_rfl)) (fun _ _ _ h => h) (Or.inl ⟨by rfl, ?_⟩) ?_ ?_
      rotate_left
      · intro w'
        go_simp
        with_reducible rfl
      rotate_left
      · simp only [Act.put, List.setIfInBounds_toArray, List.set_cons_zero, List.set_cons_succ]
        rfl
      refine done_ (done_of HT_.out (by kernel_rfl)) ?_
      clear e1 e2 e3 e4
      have hc := pw_cell_below HB.out HC.out
      go_wp2_with ((with_reducible refine gate_dst (N := 40) rfl ?_); (try (refine gate_guard (by rfl) ?_; dsimp only)); refine appB w.heap.size rfl (.tmp 35) (.tmp 39) rfl rfl _ (y ++ [(p.length : Int) / 256, (p.length : Int) % 256]) p A0 p.length c0 rfl rfl HO2.out (Kd.C_below HR0.out HB.out) HB.out HB.out.size (by have := HL.out; simp; omega) ?_; intro v3 w3 ho hb hg hat; clear HB; have HB := Aside0.mk hb; have HO3 := Aside0.mk ho; clear ho hb hg hat)
      go_roundg (gk - 1)
      case measure => omega
      case rel => exact ⟨i + 1, _, rfl, by omega, ⟨by rw [frm_snoc hlt, ← HY.out, ← HP.out, EP.out, List.append_assoc]⟩, HO3, HB⟩
    · have hi' : Aside0 (y = frm l) := ⟨by rw [HY.out, List.take_of_length_le (by omega)]⟩
      go_wp2
      go_ret2
      exact ⟨_, rfl, by rw [← hi'.out]; exact HO.out, HB.out⟩

def tabR6 : Bool × List (List Nat × List Nat) := (true, [([], []), ([], []), ([0, 1], [0, 1]), ([2], [2]), ([], []), ([], []), ([4, 5], [4, 5]), ([6], [6]), ([3, 7], [3, 7]), ([8], [8])])
theorem tabR6_ok : rtab .any (opsOf Try.f23 6) = tabR6 := by kernel_rfl
set_option maxHeartbeats 1600000 in
set_option maxRecDepth 100000 in
theorem rows_any (A : Option Addr) (n c : Nat) (l : List (List Int)) (A' : Option Addr) (n' c' : Nat) (l' : List (List Int)) (w : World) (hr : Kd.C Rw w A n l) (hr' : Kd.C Rw w A' n' l') :
    Calls Try.prog 23 #[.slice A n c, .slice A' n' c'] w fun e w' => e = .returned (.bool (decide (l = l'))) ∧ Below w.heap.size w w' := by
  obtain rfl := C_len hr
  obtain rfl := C_len hr'
  have HB := Aside0.mk (Below.refl w.heap.size w)
  by_cases hl : l.length = l'.length
  · have c1 : ((l.length : Int) != (l'.length : Int)) = false := by simp [hl]
    have c2 : ((l.length : Int) == (l'.length : Int)) = true := by simp [hl]
    have c3 : (l.length == l'.length) = true := by simp [hl]
    have HL := Aside0.mk hl
    have HR := Aside0.mk hr
    have HR' := Aside0.mk hr'
    have hm := C_max hr
    clear hl hr hr'
    go_enter Try.func23, Try.ntmps23
    go_wp2
    clear c1 c2 c3
    go_loopg [5] l.length (fun gk v w' => ∃ i : Nat, v = .int .i64 i ∧ i + gk = l.length ∧ Aside0 (l.take i = l'.take i) ∧ Aside0 (Below w.heap.size w w'))
    case atStart => exact ⟨0, rfl, by omega, ⟨rfl⟩, HB⟩
    case round =>
      clear HB
      obtain ⟨i, rfl, hi, HE, HB⟩ := hrel
      by_cases hlt : i < l.length
      · have hlt' : i < l'.length := by rw [← HL.out]; exact hlt
        obtain ⟨ad, B, b, rfl, hc1, hb1, hrb1⟩ := C_row HR.out i hlt
        obtain ⟨ad', B', b', rfl, hc2, hb2, hrb2⟩ := C_row HR'.out i hlt'
        have HC1 := Aside0.mk hc1
        have HC2 := Aside0.mk hc2
        have HR1 := Aside0.mk hrb1
        have HR2 := Aside0.mk hrb2
        clear hc1 hc2 hb1 hb2 hrb1 hrb2
        by_cases he : nthR l i = nthR l' i
        · have HE2 := Aside0.mk he
          clear he
          go_wp2_with (fail)
          refine start_ (n := 10) (S := fun w' => w'.cell? (ad.add i) = some (.slice B (nthR l i).length b) ∧ w'.cell? (ad'.add i) = some (.slice B' (nthR l' i).length b')) (ds := []) #[false, false, false, false, false, false, false, false, false, false] (by kernel_rfl) rfl rfl ⟨pw_cell_below (below_drew HB.out) HC1.out, pw_cell_below (below_drew HB.out) HC2.out⟩ (fun hHeld => ?_); refine with_tab tabR6_ok (fun HT_ => ?_)
          have hb : Below wr.heap.size wr wr.drew := below_drew (Below.refl _ _)
          replace HB := Aside0.mk (HB.out.trans (hb.mono HB.out.size))
          clear hb
          refine pure_ (i := 0) (N := some 17) (v := ?_) (a' := ?_) #[true, false, false, false, false, false, false, false, false, false] rfl rfl (any_of HT_.out (by kernel_rfl)) (fun _ _ _ h => h) (Or.inl ⟨by rfl, ?_⟩) ?_ ?_
          rotate_left
          · intro w'
            go_simp
            with_reducible rfl
          rotate_left
          · simp only [Act.put, List.setIfInBounds_toArray, List.set_cons_zero, List.set_cons_succ]
            rfl
          refine pure_ (i := 1) (N := some 18) (v := ?_) (a' := ?_) #[true, true, false, false, false, false, false, false, false, false] rfl rfl (any_of HT_.out (by kernel_rfl)) (fun _ _ _ h => h) (Or.inl ⟨by rfl, ?_⟩) ?_ ?_
          rotate_left
          · intro w'
            go_simp
            with_reducible rfl
          rotate_left
          · simp only [Act.put, List.setIfInBounds_toArray, List.set_cons_zero, List.set_cons_succ]
            rfl
          refine pure_ (i := 2) (N := some 19) (v := ?_) (a' := ?_) #[true, true, true, false, false, false, false, false, false, false] rfl rfl (any_of HT_.out (by kernel_rfl)) (fun _ _ _ h => h) (Or.inl ⟨by rfl, ?_⟩) ?_ ?_
          rotate_left
          · intro w'
            go_simp
            with_reducible rfl
          rotate_left
          · simp only [Act.put, List.setIfInBounds_toArray, List.set_cons_zero, List.set_cons_succ]
            rfl
          refine take_ (i := 3) (N := some 20) (v := ?_) (a' := ?_) #[true, true, true, true, false, false, false, false, false, false] rfl rfl (take_of HT_.out (by kernel_rfl)) (fun _ _ _ h => h) (Or.inl ⟨by rfl, ?_⟩) hHeld ?_ ?_
          rotate_left
          · intro w' hw'
            obtain ⟨hw1, hw2⟩ := hw'
            go_simp
            with_reducible rfl
          rotate_left
          · simp only [Act.put, List.setIfInBounds_toArray, List.set_cons_zero, List.set_cons_succ]
            rfl
          refine pure_ (i := 4) (N := some 21) (v := ?_) (a' := ?_) #[true, true, true, true, true, false, false, false, false, false] rfl rfl (any_of HT_.out (by kernel_rfl)) (fun _ _ _ h => h) (Or.inl ⟨by rfl, ?_⟩) ?_ ?_
          rotate_left
          · intro w'
            go_simp
            with_reducible rfl
          rotate_left
          · simp only [Act.put, List.setIfInBounds_toArray, List.set_cons_zero, List.set_cons_succ]
            rfl
          refine pure_ (i := 5) (N := some 22) (v := ?_) (a' := ?_) #[true, true, true, true, true, true, false, false, false, false] rfl rfl (any_of HT_.out (by kernel_rfl)) (fun _ _ _ h => h) (Or.inl ⟨by rfl, ?_⟩) ?_ ?_
          rotate_left
          · intro w'
            go_simp
            with_reducible rfl
          rotate_left
          · simp only [Act.put, List.setIfInBounds_toArray, List.set_cons_zero, List.set_cons_succ]
            rfl
          refine pure_ (i := 6) (N := some 23) (v := ?_) (a' := ?_) #[true, true, true, true, true, true, true, false, false, false] rfl rfl (any_of HT_.out (by kernel_rfl)) (fun _ _ _ h => h) (Or.inl ⟨by rfl, ?_⟩) ?_ ?_
          rotate_left
          · intro w'
            go_simp
            with_reducible rfl
          rotate_left
          · simp only [Act.put, List.setIfInBounds_toArray, List.set_cons_zero, List.set_cons_succ]
            rfl
          refine take_ (i := 7) (N := some 24) (v := ?_) (a' := ?_) #[true, true, true, true, true, true, true, true, false, false] rfl rfl (take_of HT_.out (by kernel_rfl)) (fun _ _ _ h => h) (Or.inl ⟨by rfl, ?_⟩) hHeld ?_ ?_
          rotate_left
          · intro w' hw'
            obtain ⟨hw1, hw2⟩ := hw'
            go_simp
            with_reducible rfl
          rotate_left
          · simp only [Act.put, List.setIfInBounds_toArray, List.set_cons_zero, List.set_cons_succ]
            rfl
          refine one_ (i := 8) (N := some 25) #[true, true, true, true, true, true, true, true, true, false] rfl rfl (one_of HT_.out (by kernel_rfl)) (by decide) (fun Kq_ hK_ => ?_)
          refine goes_ Try.func13 (by kernel_rfl) rfl #[.slice B (nthR l i).length b, .slice B' (nthR l' i).length b'] (by rfl) rfl rfl (by (try simp only [List.map_toArray, List.map_cons, List.map_nil]); first | done | rfl) ?_
          with_reducible refine (same_yes _ _ _ _ _ _ _ _ _ (Kd.C_below HR1.out HB.out) (Kd.C_below HR2.out HB.out) HE2.out).mono ?_
          rintro e w3 ⟨rfl, hd⟩
          refine ⟨_, rfl, ?_⟩
          have hb := hd.below
          replace HB := Aside0.mk (drawn_below HB.out hd)
          clear hd hb
          refine hK_.out _ _ ⟨pw_cell_below HB.out HC1.out, pw_cell_below HB.out HC2.out⟩ (fun hHeld => ?_)
          clear hK_ Kq_
          refine norm_ (a' := ?_) ?_ ?_
          rotate_left
          · show Act.put _ (some 25) _ = _
            simp only [Act.put, List.setIfInBounds_toArray, List.set_cons_zero, List.set_cons_succ]
            rfl
          refine pure_ (i := 9) (N := some 26) (v := ?_) (a' := ?_) #[true, true, true, true, true, true, true, true, true, true] rfl rfl (any_of HT_.out (by kernel_rfl)) (fun _ _ _ h => h) (Or.inl ⟨by rfl, ?_⟩) ?_ ?_
          rotate_left
          · intro w'
            go_simp
            with_reducible rfl
          rotate_left
          · simp only [Act.put, List.setIfInBounds_toArray, List.set_cons_zero, List.set_cons_succ]
            rfl
          refine done_ (done_of HT_.out (by kernel_rfl)) ?_
          go_wp2
          go_roundg (gk - 1)
          case measure => omega
          case rel => exact ⟨i + 1, rfl, by omega, ⟨by rw [takeR_snoc hlt, takeR_snoc hlt', HE.out, HE2.out]⟩, HB⟩
        · have HE2 := Aside0.mk he
          have HE3 : Aside0 (l ≠ l') := ⟨fun h => he (by rw [h])⟩
          clear he
          go_wp2_with (fail)
          refine start_ (n := 10) (S := fun w' => w'.cell? (ad.add i) = some (.slice B (nthR l i).length b) ∧ w'.cell? (ad'.add i) = some (.slice B' (nthR l' i).length b')) (ds := []) #[false, false, false, false, false, false, false, false, false, false] (by kernel_rfl) rfl rfl ⟨pw_cell_below (below_drew HB.out) HC1.out, pw_cell_below (below_drew HB.out) HC2.out⟩ (fun hHeld => ?_); refine with_tab tabR6_ok (fun HT_ => ?_)
          have hb : Below wr.heap.size wr wr.drew := below_drew (Below.refl _ _)
          replace HB := Aside0.mk (HB.out.trans (hb.mono HB.out.size))
          clear hb
          refine pure_ (i := 0) (N := some 17) (v := ?_) (a' := ?_) #[true, false, false, false, false, false, false, false, false, false] rfl rfl (any_of HT_.out (by kernel_rfl)) (fun _ _ _ h => h) (Or.inl ⟨by rfl, ?_⟩) ?_ ?_
          rotate_left
          · intro w'
            go_simp
            with_reducible rfl
          rotate_left
          · simp only [Act.put, List.setIfInBounds_toArray, List.set_cons_zero, List.set_cons_succ]
            rfl
          refine pure_ (i := 1) (N := some 18) (v := ?_) (a' := ?_) #[true, true, false, false, false, false, false, false, false, false] rfl rfl (any_of HT_.out (by kernel_rfl)) (fun _ _ _ h => h) (Or.inl ⟨by rfl, ?_⟩) ?_ ?_
          rotate_left
          · intro w'
            go_simp
            with_reducible rfl
          rotate_left
          · simp only [Act.put, List.setIfInBounds_toArray, List.set_cons_zero, List.set_cons_succ]
            rfl
          refine pure_ (i := 2) (N := some 19) (v := ?_) (a' := ?_) #[true, true, true, false, false, false, false, false, false, false] rfl rfl (any_of HT_.out (by kernel_rfl)) (fun _ _ _ h => h) (Or.inl ⟨by rfl, ?_⟩) ?_ ?_
          rotate_left
          · intro w'
            go_simp
            with_reducible rfl
          rotate_left
          · simp only [Act.put, List.setIfInBounds_toArray, List.set_cons_zero, List.set_cons_succ]
            rfl
          refine take_ (i := 3) (N := some 20) (v := ?_) (a' := ?_) #[true, true, true, true, false, false, false, false, false, false] rfl rfl (take_of HT_.out (by kernel_rfl)) (fun _ _ _ h => h) (Or.inl ⟨by rfl, ?_⟩) hHeld ?_ ?_
          rotate_left
          · intro w' hw'
            obtain ⟨hw1, hw2⟩ := hw'
            go_simp
            with_reducible rfl
          rotate_left
          · simp only [Act.put, List.setIfInBounds_toArray, List.set_cons_zero, List.set_cons_succ]
            rfl
          refine pure_ (i := 4) (N := some 21) (v := ?_) (a' := ?_) #[true, true, true, true, true, false, false, false, false, false] rfl rfl (any_of HT_.out (by kernel_rfl)) (fun _ _ _ h => h) (Or.inl ⟨by rfl, ?_⟩) ?_ ?_
          rotate_left
          · intro w'
            go_simp
            with_reducible rfl
          rotate_left
          · simp only [Act.put, List.setIfInBounds_toArray, List.set_cons_zero, List.set_cons_succ]
            rfl
          refine pure_ (i := 5) (N := some 22) (v := ?_) (a' := ?_) #[true, true, true, true, true, true, false, false, false, false] rfl rfl (any_of HT_.out (by kernel_rfl)) (fun _ _ _ h => h) (Or.inl ⟨by rfl, ?_⟩) ?_ ?_
          rotate_left
          · intro w'
            go_simp
            with_reducible rfl
          rotate_left
          · simp only [Act.put, List.setIfInBounds_toArray, List.set_cons_zero, List.set_cons_succ]
            rfl
          refine pure_ (i := 6) (N := some 23) (v := ?_) (a' := ?_) #[true, true, true, true, true, true, true, false, false, false] rfl rfl (any_of HT_.out (by kernel_rfl)) (fun _ _ _ h => h) (Or.inl ⟨by rfl, ?_⟩) ?_ ?_
          rotate_left
          · intro w'
            go_simp
            with_reducible rfl
          rotate_left
          · simp only [Act.put, List.setIfInBounds_toArray, List.set_cons_zero, List.set_cons_succ]
            rfl
          refine take_ (i := 7) (N := some 24) (v := ?_) (a' := ?_) #[true, true, true, true, true, true, true, true, false, false] rfl rfl (take_of HT_.out (by kernel_rfl)) (fun _ _ _ h => h) (Or.inl ⟨by rfl, ?_⟩) hHeld ?_ ?_
          rotate_left
          · intro w' hw'
            obtain ⟨hw1, hw2⟩ := hw'
            go_simp
            with_reducible rfl
          rotate_left
          · simp only [Act.put, List.setIfInBounds_toArray, List.set_cons_zero, List.set_cons_succ]
            rfl
          refine one_ (i := 8) (N := some 25) #[true, true, true, true, true, true, true, true, true, false] rfl rfl (one_of HT_.out (by kernel_rfl)) (by decide) (fun Kq_ hK_ => ?_)
          refine goes_ Try.func13 (by kernel_rfl) rfl #[.slice B (nthR l i).length b, .slice B' (nthR l' i).length b'] (by rfl) rfl rfl (by (try simp only [List.map_toArray, List.map_cons, List.map_nil]); first | done | rfl) ?_
          with_reducible refine (same_no _ _ _ _ _ _ _ _ _ (Kd.C_below HR1.out HB.out) (Kd.C_below HR2.out HB.out) HE2.out).mono ?_
          rintro e w3 ⟨rfl, hd⟩
          refine ⟨_, rfl, ?_⟩
          have hb := hd.below
          replace HB := Aside0.mk (drawn_below HB.out hd)
          clear hd hb
          refine hK_.out _ _ ⟨pw_cell_below HB.out HC1.out, pw_cell_below HB.out HC2.out⟩ (fun hHeld => ?_)
          clear hK_ Kq_
          refine norm_ (a' := ?_) ?_ ?_
          rotate_left
          · show Act.put _ (some 25) _ = _
            simp only [Act.put, List.setIfInBounds_toArray, List.set_cons_zero, List.set_cons_succ]
            rfl
          refine pure_ (i := 9) (N := some 26) (v := ?_) (a' := ?_) #[true, true, true, true, true, true, true, true, true, true] rfl rfl (any_of HT_.out (by kernel_rfl)) (fun _ _ _ h => h) (Or.inl ⟨by rfl, ?_⟩) ?_ ?_
          rotate_left
          · intro w'
            go_simp
            with_reducible rfl
          rotate_left
          · simp only [Act.put, List.setIfInBounds_toArray, List.set_cons_zero, List.set_cons_succ]
            rfl
          refine done_ (done_of HT_.out (by kernel_rfl)) ?_
          go_wp2
          go_ret
          exact ⟨retB (decide_eq_false HE3.out).symm, HB.out⟩
      · have hi' : i = l.length := by omega
        have HE2 : Aside0 (l = l') := ⟨by
          have h := HE.out
          rw [hi', List.take_length, HL.out, List.take_length] at h
          exact h⟩
        clear hi'
        go_wp2
        go_ret
        exact ⟨retB (decide_eq_true HE2.out).symm, HB.out⟩
  · have c1 : ((l.length : Int) != (l'.length : Int)) = true := by simp; omega
    have c2 : ((l.length : Int) == (l'.length : Int)) = false := by simp; omega
    have c3 : (l.length == l'.length) = false := by simp; omega
    have HE2 : Aside0 (l ≠ l') := ⟨fun h => hl (by rw [h])⟩
    clear hl
    go_enter Try.func23, Try.ntmps23
    go_wp2
    go_ret
    exact ⟨retB (decide_eq_false HE2.out).symm, HB.out⟩
theorem rows_yes (A : Option Addr) (n c : Nat) (l : List (List Int)) (A' : Option Addr) (n' c' : Nat) (l' : List (List Int)) (w : World) (hr : Kd.C Rw w A n l) (hr' : Kd.C Rw w A' n' l') (h : l = l') :
    Calls Try.prog 23 #[.slice A n c, .slice A' n' c'] w fun e w' => e = .returned (.bool true) ∧ Below w.heap.size w w' := by
  have := rows_any A n c l A' n' c' l' w hr hr'
  rw [decide_eq_true h] at this
  exact this

/-! wire.Parts -/
set_option maxHeartbeats 1600000 in
set_option maxRecDepth 100000 in
theorem parts_any (A : Option Addr) (n c : Nat) (b : List Int) (w : World) (hr : RdN w A n b) (hc : n ≤ c) (hy : Byt b) (hl : n ≤ 1000000) :
    Calls Try.prog 21 #[.slice A n c] w fun e w' => ∃ v, e = .returned (.tuple #[v, .bool (partsS b).2]) ∧ Kd.R Rw 22 w' w.heap.size (fun _ => True) v (partsS b).1 ∧ Below w.heap.size w w' := by
  obtain rfl := C_len hr
  have HB := Aside0.mk (Below.refl w.heap.size w)
  have HR := Aside0.mk (And.intro hr hc)
  have HY := Aside0.mk hy
  clear hr hc hy
  go_enter Try.func21, Try.ntmps21
  go_wp2
  go_loopg [0, 4] b.length (fun gk v0 v4 w' => ∃ (A' : Option Addr) (c' : Nat) (r : List Int) (acc : List (List Int)) (f : Nat), v0 = .slice A' r.length c' ∧ r.length ≤ gk ∧ gk ≤ b.length ∧ acc.length + gk ≤ b.length ∧
    Aside0 (RdN w A' r.length r ∧ r.length ≤ c' ∧ Byt r) ∧ Aside0 (r.length ≤ f ∧ dec b.length b = (dec f r).map (fun l => acc ++ l)) ∧
    Aside0 (Kd.R Rw 22 w' w.heap.size (fun _ => True) v4 acc) ∧ Aside0 (Below w.heap.size w w'))
  case atStart => exact ⟨A, c, b, [], b.length, rfl, Nat.le_refl _, Nat.le_refl _, by simp, ⟨HR.out.1, HR.out.2, HY.out⟩, ⟨Nat.le_refl _, by simp⟩, ⟨Kd.R_nil _ _ _ _ _⟩, HB⟩
  case round =>
    clear HB HR HY
    obtain ⟨A', c', r, acc, f, rfl, hgk, hgb, hacc, HR, HF, HO, HB⟩ := hrel
    have HSZ := Aside0.mk HB.out.size
    by_cases h0 : 0 < r.length
    · by_cases h2 : r.length < 2
      · have hq : Aside0 (partsS b = ([], false)) := ⟨partsS_none (by rw [HF.out.2, dec_short (by omega) h2 HF.out.1]; rfl)⟩
        go_wp2
        go_ret2
        exact ⟨_, by rw [hq.out]; rfl, by rw [hq.out]; exact Kd.R_nil _ _ _ _ _, HB.out⟩
      · obtain ⟨hv0, hv1⟩ := val_two HR.out.2.2 h2
        obtain ⟨m, hm⟩ := Int.eq_ofNat_of_zero_le hv0
        have hcc := HR.out.2.1
        have hc2 : 2 ≤ c' := by omega
        have HT := Aside0.mk (RdN_take HR.out.1 2 (by omega))
        have HM := Aside0.mk hm
        by_cases hle : m ≤ r.length - 2
        · obtain ⟨A2, cm0, hA2⟩ := cutMid HR.out.1 HR.out.2.1 2 (2 + m) (by omega) (by omega) .i64 .u64
          obtain ⟨A3, cf0, hA3⟩ := cutFrom HR.out.1 HR.out.2.1 (2 + m) (by omega) .u64
          rw [Nat.add_sub_cancel_left, ← List.take_drop] at hA2
          rw [Nat.add_sub_cancel_left] at cm0
          have cm : ∀ W : World, (Instr.slice 22 (.slice A' r.length c') (some (.int .i64 2)) (some (.int .u64 (2 + (m : Int)))) none).run Try.prog W = .ok (.slice A2 m (c' - 2)) W := fun W => by
            have := cm0 W
            rwa [Int.natCast_add] at this
          have cf : ∀ W : World, (Instr.slice 22 (.slice A' r.length c') (some (.int .u64 (2 + (m : Int)))) none none).run Try.prog W = .ok (.slice A3 (r.length - (2 + m)) (c' - (2 + m))) W := fun W => by
            have := cf0 W
            rwa [Int.natCast_add] at this
          obtain ⟨g, hg, hg2, hg3⟩ := dec_step h2 hm hle HF.out.1
          have HG := Aside0.mk (And.intro hg2 hg3)
          have HA2 := Aside0.mk hA2
          have HA3 := Aside0.mk hA3
          have hlp : ((r.drop 2).take m).length = m := by rw [List.length_take, List.length_drop]; omega
          have HLP := Aside0.mk hlp
          obtain ⟨p, hp⟩ : ∃ p, p = (r.drop 2).take m := ⟨_, rfl⟩
          have HPE := Aside0.mk hp
          rw [← hp] at HA2 HLP
          clear cm0 cf0 hA2 hA3 hg hg2 hg3 hlp hp hm
          go_wp2_with (first
            | (go_at_call 15; refine (get_yes A' 2 c' _ _ (Kd.C_below HT.out HB.out) (HR.out.2.2.take 2) (by omega) (by omega)).mono ?_; rintro e w3 ⟨rfl, rfl⟩; rw [HM.out])
            | ((with_reducible refine gate_dst (N := 26) rfl ?_); refine litB wr.heap.size rfl (N := 26) rfl [] ?hr (Below.refl _ _) (Nat.le_refl _) (by simp) ?_; (case hr => first | (go_simp; done) | (go_simp; rfl)); intro v1 w1 ho hb0 hn hb; have HB1 := Aside0.mk hb0; have HO1 := Aside0.mk ho; clear ho hb0 hn hb)
            | ((with_reducible refine gate_dst (N := 31) rfl ?_); refine appB wr.heap.size rfl (.tmp 26) (.tmp 30) rfl rfl _ [] p A2 m (c' - 2) rfl rfl HO1.out (Kd.C_below HA2.out (HB.out.trans (HB1.out.mono HB.out.size))) HB1.out HB1.out.size (by simp; omega) ?_; intro v2 w2 ho hb2 hg hat; rw [List.nil_append] at ho; obtain ⟨Ap, cp, rfl⟩ := Kd.R_slice ho; have HO2 := Aside0.mk (Kd.R_new' ho (Kd.R_lt HO.out)); replace HO := Aside0.mk (Kd.R_below HO.out hb2); replace HB := Aside0.mk (HB.out.trans (hb2.mono HB.out.size)); clear ho hb2 hg hat)
            | ((with_reducible refine gate_builtin (b := .append) (xs := #[.tmp 25, .tmp 32]) rfl ?_); at_builtin; (refine Kd.R_append Rw (w0 := w) w.heap.size rfl (.tmp 25) (.tmp 32) 34 22 (.slice none 0 0) 24 rfl Try.underlying34 infoRow rfl (by decide) (by omega) u4 acc p [.slice Ap p.length cp] (fun _ => True) (fun k => True ∧ some k ≠ u4.ownBlock) rfl rfl ?hp ?hokp (fun _ _ => trivial) HO.out HB.out HB.out.size (by omega) ?_; (case hp => exact Kd.M_row (Kd.R_lower HO2.out HSZ.out)); (case hokp => exact fun k hk => hk); intro v3 w3 ho hb hg hat; clear HB; have HB := Aside0.mk hb; have HO3 := Aside0.mk ho; clear ho hb hg hat)))
          go_roundg (gk - 1)
          case measure => omega
          case rel =>
            refine ⟨A3, c' - (2 + m), r.drop (2 + m), acc ++ [p], g, by rw [List.length_drop], by rw [List.length_drop]; omega, by omega, by rw [List.length_append, List.length_singleton]; omega, ⟨by rw [List.length_drop]; exact HA3.out, by rw [List.length_drop]; have := HR.out.2.1; omega, HR.out.2.2.drop _⟩, ⟨HG.out.1, ?_⟩, HO3, HB⟩
            rw [HF.out.2, HG.out.2, ← HPE.out, Option.map_map]
            congr 1
            funext l
            simp
        · have hq : Aside0 (partsS b = ([], false)) := ⟨partsS_none (by rw [HF.out.2, dec_long h2 (by omega) HF.out.1]; rfl)⟩
          have hz : (r.length : Int) - 2 < (m : Int) := by omega
          clear hm
          go_wp2_with (go_at_call 15; refine (get_yes A' 2 c' _ _ (Kd.C_below HT.out HB.out) (HR.out.2.2.take 2) (by omega) (by omega)).mono ?_; rintro e w3 ⟨rfl, rfl⟩; rw [HM.out])
          go_ret2
          exact ⟨_, by rw [hq.out]; rfl, by rw [hq.out]; exact Kd.R_nil _ _ _ _ _, HB.out⟩
    · have hq : Aside0 (partsS b = (acc, true)) := ⟨partsS_some (by rw [HF.out.2, dec_nil (by omega)]; simp)⟩
      go_wp2
      go_ret2
      exact ⟨_, by rw [hq.out]; rfl, by rw [hq.out]; exact HO.out, HB.out⟩

/-! Parts of the reference -/
def tabP6 : Bool × List (List Nat × List Nat) := (true, [([], []), ([], []), ([0, 1], [0, 1]), ([2], [2]), ([3], [3]), ([4], [4]), ([], []), ([], []), ([7], [7]), ([6, 8], [6, 8]), ([9], [9]), ([10], [10]), ([5, 11], [5, 11]), ([12, 0, 1, 2, 3, 4, 5, 6, 7, 8, 9, 10, 11, 12], [12])])
theorem tabP6_ok : rtab .any (opsOf Try.f22 6) = tabP6 := by kernel_rfl
set_option maxHeartbeats 1600000 in
set_option maxRecDepth 100000 in
theorem refparts_any (A : Option Addr) (n c : Nat) (b : List Int) (w : World) (hr : RdN w A n b) (hc : n ≤ c) (hy : Byt b) (hl : n ≤ 1000000) :
    Calls Try.prog 22 #[.slice A n c] w fun e w' => ∃ v, e = .returned (.tuple #[v, .bool (partsS b).2]) ∧ Kd.R Rw 22 w' w.heap.size (fun _ => True) v (partsS b).1 ∧ Below w.heap.size w w' := by
  obtain rfl := C_len hr
  have HB := Aside0.mk (Below.refl w.heap.size w)
  have HR := Aside0.mk hr
  have HY := Aside0.mk hy
  clear hr hy
  go_enter Try.func22, Try.ntmps22
  go_wp2
  go_loopg [4, 5] b.length (fun gk v4 v5 w' => ∃ (i : Nat) (acc : List (List Int)) (f : Nat), v5 = .int .i64 i ∧ i ≤ b.length ∧ b.length - i ≤ gk ∧ gk ≤ b.length ∧ acc.length + gk ≤ b.length ∧
    Aside0 ((b.drop i).length ≤ f ∧ dec b.length b = (dec f (b.drop i)).map (fun l => acc ++ l)) ∧
    Aside0 (Kd.R Rw 22 w' w.heap.size (fun _ => True) v4 acc) ∧ Aside0 (Below w.heap.size w w'))
  case atStart => exact ⟨0, [], b.length, rfl, by omega, by omega, by omega, by simp, ⟨by simp, by simp⟩, ⟨Kd.R_nil _ _ _ _ _⟩, HB⟩
  case round =>
    clear HB
    obtain ⟨i, acc, f, rfl, hib, hgk, hgb, hacc, HF, HO, HB⟩ := hrel
    have HSZ := Aside0.mk HB.out.size
    have hdl : (b.drop i).length = b.length - i := List.length_drop
    by_cases h0 : i < b.length
    · by_cases h2 : b.length < i + 2
      · have hq : Aside0 (partsS b = ([], false)) := ⟨partsS_none (by rw [HF.out.2, dec_short (by omega) (by omega) HF.out.1]; rfl)⟩
        clear hdl
        go_wp2
        go_ret2
        exact ⟨_, by rw [hq.out]; rfl, by rw [hq.out]; exact Kd.R_nil _ _ _ _ _, HB.out⟩
      · have hp := val_pair (b := b) (i := i) (by omega)
        obtain ⟨ad, rfl, hc1⟩ := C_at HR.out i h0
        obtain ⟨ad', he', hc2⟩ := C_at HR.out (i + 1) (by omega)
        injection he' with he'
        subst he'
        have HC1 := Aside0.mk hc1
        have HC2 := Aside0.mk hc2
        obtain ⟨x, hx⟩ : ∃ x, x = nth b i := ⟨_, rfl⟩
        obtain ⟨y, hy⟩ : ∃ y, y = nth b (i + 1) := ⟨_, rfl⟩
        have hx1 := HY.out.nth h0
        have hy1 := HY.out.nth (i := i + 1) (by omega)
        rw [← hx] at hx1 HC1 hp
        rw [← hy] at hy1 HC2 hp
        obtain ⟨m, hm⟩ := Int.eq_ofNat_of_zero_le (show 0 ≤ x * 256 + y by omega)
        obtain ⟨hx1, hx2⟩ := hx1
        obtain ⟨hy1, hy2⟩ := hy1
        clear hc1 hc2 hx hy
        rw [hm] at hp
        have HM := Aside0.mk hp
        have e1 : IntKind.i64.wrap (x * 256) = x * 256 := IntWalk.i64_in _ (by omega)
        have e2 : IntKind.i64.wrap x = x := IntWalk.i64_in _ (by omega)
        have e3 : IntKind.i64.wrap y = y := IntWalk.i64_in _ (by omega)
        have e4 : IntKind.i64.wrap ((i : Int) + 1) = (i : Int) + 1 := IntWalk.i64_in _ (by omega)
        have e5 : IntKind.i64.wrap (x * 256 + y) = (m : Int) := by rw [IntWalk.i64_in _ (by omega), hm]
        have hi1 : (i : Int) + 1 < (b.length : Int) := by omega
        have hi0 : 0 ≤ (i : Int) + 1 := by omega
        have hae : ad.add (i + 1) = ⟨ad.block, ad.off + (i + 1), none⟩ := by unfold Addr.add; split <;> simp_all
        rw [hae] at HC2
        clear hae
        clear hp hdl
        go_wp2_with (fail)
        refine start_ (n := 14) (S := fun w' => w'.cell? (ad.add i) = some (.int .u8 x) ∧ w'.cell? ⟨ad.block, ad.off + (i + 1), none⟩ = some (.int .u8 y)) (ds := []) #[false, false, false, false, false, false, false, false, false, false, false, false, false, false] (by kernel_rfl) rfl rfl ⟨pw_cell_below (below_drew HB.out) HC1.out, pw_cell_below (below_drew HB.out) HC2.out⟩ (fun hHeld => ?_); refine with_tab tabP6_ok (fun HT_ => ?_)
        have hb : Below wr.heap.size wr wr.drew := below_drew (Below.refl _ _)
        replace HO := Aside0.mk (Kd.R_below HO.out hb)
        replace HB := Aside0.mk (HB.out.trans (hb.mono HB.out.size))
        clear hb
        refine pure_ (i := 0) (N := some 16) (v := ?_) (a' := ?_) #[true, false, false, false, false, false, false, false, false, false, false, false, false, false] rfl rfl (any_of HT_.out (by kernel_rfl)) (fun _ _ _ h => h) (Or.inl ⟨by rfl, ?_⟩) ?_ ?_
        rotate_left
        · intro w'
          go_simp
          with_reducible rfl
        rotate_left
        · simp only [Act.put, List.setIfInBounds_toArray, List.set_cons_zero, List.set_cons_succ]
          rfl
        refine pure_ (i := 1) (N := some 17) (v := ?_) (a' := ?_) #[true, true, false, false, false, false, false, false, false, false, false, false, false, false] rfl rfl (any_of HT_.out (by kernel_rfl)) (fun _ _ _ h => h) (Or.inl ⟨by rfl, ?_⟩) ?_ ?_
        rotate_left
        · intro w'
          go_simp
          with_reducible rfl
        rotate_left
        · simp only [Act.put, List.setIfInBounds_toArray, List.set_cons_zero, List.set_cons_succ]
          rfl
        refine pure_ (i := 2) (N := some 18) (v := ?_) (a' := ?_) #[true, true, true, false, false, false, false, false, false, false, false, false, false, false] rfl rfl (any_of HT_.out (by kernel_rfl)) (fun _ _ _ h => h) (Or.inl ⟨by rfl, ?_⟩) ?_ ?_
        rotate_left
        · intro w'
          go_simp
          with_reducible rfl
        rotate_left
        · simp only [Act.put, List.setIfInBounds_toArray, List.set_cons_zero, List.set_cons_succ]
          rfl
        refine take_ (i := 3) (N := some 19) (v := ?_) (a' := ?_) #[true, true, true, true, false, false, false, false, false, false, false, false, false, false] rfl rfl (take_of HT_.out (by kernel_rfl)) (fun _ _ _ h => h) (Or.inl ⟨by rfl, ?_⟩) hHeld ?_ ?_
        rotate_left
        · intro w' hw'
          obtain ⟨hw1, hw2⟩ := hw'
          go_simp
          with_reducible rfl
        rotate_left
        · simp only [Act.put, List.setIfInBounds_toArray, List.set_cons_zero, List.set_cons_succ]
          rfl
        refine pure_ (i := 4) (N := some 20) (v := ?_) (a' := ?_) #[true, true, true, true, true, false, false, false, false, false, false, false, false, false] rfl rfl (any_of HT_.out (by kernel_rfl)) (fun _ _ _ h => h) (Or.inl ⟨by rfl, ?_⟩) ?_ ?_
        rotate_left
        · intro w'
          go_simp
          with_reducible rfl
        rotate_left
        · simp only [Act.put, List.setIfInBounds_toArray, List.set_cons_zero, List.set_cons_succ]
          rfl
        refine pure_ (i := 5) (N := some 21) (v := ?_) (a' := ?_) #[true, true, true, true, true, true, false, false, false, false, false, false, false, false] rfl rfl (any_of HT_.out (by kernel_rfl)) (fun _ _ _ h => h) (Or.inl ⟨by rfl, ?_⟩) ?_ ?_
        rotate_left
        · intro w'
          go_simp
          with_reducible rfl
        rotate_left
        · simp only [Act.put, List.setIfInBounds_toArray, List.set_cons_zero, List.set_cons_succ]
          rfl
        refine pure_ (i := 6) (N := some 22) (v := ?_) (a' := ?_) #[true, true, true, true, true, true, true, false, false, false, false, false, false, false] rfl rfl (any_of HT_.out (by kernel_rfl)) (fun _ _ _ h => h) (Or.inl ⟨by rfl, ?_⟩) ?_ ?_
        rotate_left
        · intro w'
          go_simp
          with_reducible rfl
        rotate_left
        · simp only [Act.put, List.setIfInBounds_toArray, List.set_cons_zero, List.set_cons_succ]
          rfl
        refine pure_ (i := 7) (N := some 23) (v := ?_) (a' := ?_) #[true, true, true, true, true, true, true, true, false, false, false, false, false, false] rfl rfl (any_of HT_.out (by kernel_rfl)) (fun _ _ _ h => h) (Or.inl ⟨by rfl, ?_⟩) ?_ ?_
        rotate_left
        · intro w'
          go_simp
          with_reducible rfl
        rotate_left
        · simp only [Act.put, List.setIfInBounds_toArray, List.set_cons_zero, List.set_cons_succ]
          rfl
        refine pure_ (i := 8) (N := some 24) (v := ?_) (a' := ?_) #[true, true, true, true, true, true, true, true, true, false, false, false, false, false] rfl rfl (any_of HT_.out (by kernel_rfl)) (fun _ _ _ h => h) (Or.inl ⟨by rfl, ?_⟩) ?_ ?_
        rotate_left
        · intro w'
          go_simp
          with_reducible rfl
        rotate_left
        · simp only [Act.put, List.setIfInBounds_toArray, List.set_cons_zero, List.set_cons_succ]
          rfl
        refine pure_ (i := 9) (N := some 25) (v := ?_) (a' := ?_) #[true, true, true, true, true, true, true, true, true, true, false, false, false, false] rfl rfl (any_of HT_.out (by kernel_rfl)) (fun _ _ _ h => h) (Or.inl ⟨by rfl, ?_⟩) ?_ ?_
        rotate_left
        · intro w'
          go_simp
          with_reducible rfl
        rotate_left
        · simp only [Act.put, List.setIfInBounds_toArray, List.set_cons_zero, List.set_cons_succ]
          rfl
        refine take_ (i := 10) (N := some 26) (v := ?_) (a' := ?_) #[true, true, true, true, true, true, true, true, true, true, true, false, false, false] rfl rfl (take_of HT_.out (by kernel_rfl)) (fun _ _ _ h => h) (Or.inl ⟨by rfl, ?_⟩) hHeld ?_ ?_
        rotate_left
        · intro w' hw'
          obtain ⟨hw1, hw2⟩ := hw'
          go_simp
          with_reducible rfl
        rotate_left
        · simp only [Act.put, List.setIfInBounds_toArray, List.set_cons_zero, List.set_cons_succ]
          rfl
        refine pure_ (i := 11) (N := some 27) (v := ?_) (a' := ?_) #[true, true, true, true, true, true, true, true, true, true, true, true, false, false] rfl rfl (any_of HT_.out (by kernel_rfl)) (fun _ _ _ h => h) (Or.inl ⟨by rfl, ?_⟩) ?_ ?_
        rotate_left
        · intro w'
          go_simp
          with_reducible rfl
        rotate_left
        · simp only [Act.put, List.setIfInBounds_toArray, List.set_cons_zero, List.set_cons_succ]
          rfl
        refine pure_ (i := 12) (N := some 28) (v := ?_) (a' := ?_) #[true, true, true, true, true, true, true, true, true, true, true, true, true, false] rfl rfl (any_of HT_.out (by kernel_rfl)) (fun _ _ _ h => h) (Or.inl ⟨by rfl, ?_⟩) ?_ ?_
        rotate_left
        · intro w'
          go_simp
          with_reducible rfl
        rotate_left
        · simp only [Act.put, List.setIfInBounds_toArray, List.set_cons_zero, List.set_cons_succ]
          rfl
        refine pure_ (i := 13) (N := some 6) (v := ?_) (a' := ?_) #[true, true, true, true, true, true, true, true, true, true, true, true, true, true] rfl rfl (any_of HT_.out (by kernel_rfl)) (fun _ _ _ h => h) (Or.inl ⟨by rfl, ?_⟩) ?_ ?_
        rotate_left
        · intro w'
          go_simp
          with_reducible rfl
        rotate_left
        · simp only [Act.put, List.setIfInBounds_toArray, List.set_cons_zero, List.set_cons_succ]
          rfl
        refine done_ (done_of HT_.out (by kernel_rfl)) ?_
        clear HT_ hHeld e1 e2 e3 e4 e5 hi1 hi0 HC1 HC2
        have HSD : Aside0 (w.heap.size ≤ wr.drew.heap.size) := ⟨HB.out.size⟩
        generalize wr.drew = wd at HO HB HSD ⊢
        have hv1 : m < 65536 := by omega
        by_cases hle : m ≤ (b.drop i).length - 2
        · rw [List.length_drop] at hle
          obtain ⟨A2, cm0, hA2⟩ := cutMid HR.out hc (i + 2) (i + 2 + m) (by omega) (by omega) .i64 .i64
          rw [Nat.add_sub_cancel_left, ← List.take_drop] at hA2
          rw [Nat.add_sub_cancel_left] at cm0
          have cm : ∀ W : World, (Instr.slice 22 (.slice (some ad) b.length c) (some (.int .i64 ((i : Int) + 2))) (some (.int .i64 ((i : Int) + 2 + (m : Int)))) none).run Try.prog W = .ok (.slice A2 m (c - (i + 2))) W := fun W => by
            have := cm0 W
            rwa [Int.natCast_add, Int.natCast_add] at this
          obtain ⟨g, hg, hg2, hg3⟩ := dec_step (b := b.drop i) (by rw [List.length_drop]; omega) HM.out (by rw [List.length_drop]; exact hle) HF.out.1
          rw [List.drop_drop, List.drop_drop] at hg3
          rw [List.drop_drop] at hg2
          have HG := Aside0.mk (And.intro hg2 hg3)
          have HA2 := Aside0.mk hA2
          have hlp : ((b.drop (i + 2)).take m).length = m := by rw [List.length_take, List.length_drop]; omega
          have HLP := Aside0.mk hlp
          obtain ⟨p, hp⟩ : ∃ p, p = (b.drop (i + 2)).take m := ⟨_, rfl⟩
          have HPE := Aside0.mk hp
          rw [← hp] at HA2 HLP
          have k1 : ¬ (b.length : Int) < (i : Int) + 2 + (m : Int) := by omega
          clear cm0 hA2 hg hg2 hg3 hlp hp hm
          go_wp2_with (first
            | ((with_reducible refine gate_dst (N := 37) rfl ?_); refine litB wd.heap.size rfl (N := 37) rfl [] ?hr (Below.refl _ _) (Nat.le_refl _) (by simp) ?_; (case hr => first | (go_simp; done) | (go_simp; rfl)); intro v1 w1 ho hb0 hn hb; have HB1 := Aside0.mk hb0; have HO1 := Aside0.mk ho; clear ho hb0 hn hb)
            | ((with_reducible refine gate_dst (N := 46) rfl ?_); refine appB wd.heap.size rfl (.tmp 37) (.tmp 45) rfl rfl _ [] p A2 m (c - (i + 2)) rfl rfl HO1.out (Kd.C_below HA2.out (HB.out.trans (HB1.out.mono HB.out.size))) HB1.out HB1.out.size (by simp; omega) ?_; intro v2 w2 ho hb2 hg hat; rw [List.nil_append] at ho; obtain ⟨Ap, cp, rfl⟩ := Kd.R_slice ho; have HO2 := Aside0.mk (Kd.R_new' ho (Kd.R_lt HO.out)); replace HO := Aside0.mk (Kd.R_below HO.out hb2); replace HB := Aside0.mk (HB.out.trans (hb2.mono HB.out.size)); clear ho hb2 hg hat)
            | ((with_reducible refine gate_builtin (b := .append) (xs := #[.tmp 36, .tmp 47]) rfl ?_); at_builtin; refine Kd.R_append Rw (w0 := w) w.heap.size rfl (.tmp 36) (.tmp 47) 34 22 (.slice none 0 0) 24 rfl Try.underlying34 infoRow rfl (by decide) (by omega) u4 acc p [.slice Ap p.length cp] (fun _ => True) (fun k => True ∧ some k ≠ u4.ownBlock) rfl rfl ?hp ?hokp (fun _ _ => trivial) HO.out HB.out HB.out.size (by omega) ?_; (case hp => exact Kd.M_row (Kd.R_lower HO2.out HSD.out)); (case hokp => exact fun k hk => hk); intro v3 w3 ho hb hg hat; clear HB; have HB := Aside0.mk hb; have HO3 := Aside0.mk ho; clear ho hb hg hat))
          go_roundg (gk - 1)
          case measure => omega
          case rel =>
            refine ⟨i + 2 + m, acc ++ [p], g, by go_num, by omega, by omega, by omega, by rw [List.length_append, List.length_singleton]; omega, ⟨by have := HG.out.1; rw [Nat.add_assoc]; exact this, ?_⟩, HO3, HB⟩
            rw [HF.out.2, HG.out.2, ← HPE.out, Option.map_map, Nat.add_assoc]
            congr 1
            funext l
            simp
        · have hq : Aside0 (partsS b = ([], false)) := ⟨partsS_none (by rw [HF.out.2, dec_long (by rw [List.length_drop]; omega) (by rw [HM.out]; omega) HF.out.1]; rfl)⟩
          rw [List.length_drop] at hle
          have k1 : (b.length : Int) < (i : Int) + 2 + (m : Int) := by omega
          clear hm
          go_wp2
          go_ret2
          exact ⟨_, by rw [hq.out]; rfl, by rw [hq.out]; exact Kd.R_nil _ _ _ _ _, HB.out⟩
    · have hq : Aside0 (partsS b = (acc, true)) := ⟨partsS_some (by rw [HF.out.2, dec_nil (by omega)]; simp)⟩
      clear hdl
      go_wp2
      go_ret2
      exact ⟨_, by rw [hq.out]; rfl, by rw [hq.out]; exact HO.out, HB.out⟩
end Go.Proofs.Ytfbbnodlikcocaa.Wire
