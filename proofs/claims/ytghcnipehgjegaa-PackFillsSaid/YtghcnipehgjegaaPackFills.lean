/- PackFills answers true for every list of cells and every number. No conditions. -/
import Derived.Test.YtghcnipehgjegaaPackAwake
import Derived.Test.YtghcnipehgjegaaPackRefFill
import Derived.Test.YtghcnipehgjegaaPackGroups
import Derived.Test.YtghcnipehgjegaaRows01
namespace Go.Proofs.Ytghcnipehgjegaa.Cell
open Go.RowKit Go.Proofs.YtghcnipehgjegaaW.PrintWords Go.Proofs.YtghcnipehgjegaaW.PrintLast Go.Proofs.YtghcnipehgjegaaW.PrintMore Go.Proofs.Ytghcnipehgjegaa.Kit Go.Proofs.Ytghcnipehgjegaa.Plain Go.Proofs.Ytghcnipehgjegaa.Wire
attribute [local go_sem] max2_int min2_int max_two min_two max_three min_three
set_option linter.unusedVariables false
set_option linter.unusedSimpArgs false
def tabPl14 : Bool × List (List Nat × List Nat) := (true, [([], []), ([], []), ([0, 1], [0, 1]), ([2], [2]), ([], []), ([], []), ([4, 5], [4, 5]), ([6], [6]), ([3, 7], [3, 7])])
theorem tabPl14_ok : rtab .any (opsOf Try.f4 14) = tabPl14 := by kernel_rfl
def maxS (n : Int) : Int := if n ≤ 0 then 0 else n
theorem worst_any (n : Int) (w : World) : Calls Try.prog 15 #[.int .i64 n] w fun e w' => e = .returned (.int .i64 (maxS n)) ∧ w = w' := by
  rcases Int.lt_trichotomy n 0 with h | h | h
  · have HE := Aside0.mk (show maxS n = 0 by rw [maxS, if_pos (by omega)])
    have h1 : ¬ 0 < n := by omega
    have h2 : ¬ 0 ≤ n := by omega
    have h3 : n ≤ 0 := by omega
    go_enter Try.func15, Try.ntmps15
    go_wp2
    go_ret
    exact ⟨by rw [HE.out]; rfl, rfl⟩
  · subst h
    go_enter Try.func15, Try.ntmps15
    go_wp2
    go_ret
    exact ⟨rfl, rfl⟩
  · have HE := Aside0.mk (show maxS n = n by rw [maxS, if_neg (by omega)])
    have h1 : ¬ n < 0 := by omega
    have h2 : ¬ n ≤ 0 := by omega
    have h3 : 0 ≤ n := by omega
    go_enter Try.func15, Try.ntmps15
    go_wp2
    go_ret
    exact ⟨by rw [HE.out]; rfl, rfl⟩
set_option maxHeartbeats 3200000 in
set_option maxRecDepth 100000 in
/-- The reference, where one cell may not be. -/
theorem reffill_no (B0 : Option Addr) (n0 bc : Nat) (l : List Cel) (w : World) (hr : Kd.C CelD w B0 n0 l) (ht : ∀ x ∈ l, CelTy x) (hl : n0 ≤ 1000) (hR : ∃ x ∈ l, rightB x = false) :
    Calls Try.prog 13 #[.slice B0 n0 bc] w fun e w' => e = .returned (.tuple #[.slice none 0 0, .slice none 0 0, .bool false]) ∧ Below w.heap.size w w' := by
  obtain ⟨m, h1, h2, h3⟩ := first_bad l hR
  obtain rfl := Kd.C_len hr
  have hmx := Kd.C_max hr
  have HR := Aside0.mk hr
  have HT := Aside0.mk ht
  have HRT := Aside0.mk h2
  have HBAD := Aside0.mk h3
  clear hr ht hR h2 h3
  have HB := Aside0.mk (Below.refl w.heap.size w)
  go_enter Try.func13, Try.ntmps13
  go_wp2
  go_loopg [7] l.length (fun gk v w' => ∃ i : Nat, v = .int .i64 (i : Int) ∧ i + gk = l.length ∧ i ≤ m ∧ Aside0 (Below w.heap.size w w'))
  case atStart => exact ⟨0, rfl, by omega, Nat.zero_le _, HB⟩
  case round =>
    clear HB
    obtain ⟨i, rfl, hi, him, HB⟩ := hrel
    have hlt : i < l.length := by omega
    obtain ⟨ad, A, c, rfl, hcel, hcapx, hra⟩ := cel_row HR.out i hlt
    obtain ⟨x, hx⟩ : ∃ x, x = gdC l i := ⟨_, rfl⟩
    have htx : CelTy x := hx ▸ HT.out _ (gdC_mem hlt)
    have HXI := Aside0.mk hx
    rw [← hx] at hcel hcapx hra
    obtain ⟨c0, c1, c2, c3, c4, c5, c6, c7, c8, c9, c10⟩ := CelIn.below hcel HB.out
    have HRA := Aside0.mk hra
    have HTX := Aside0.mk htx
    have hmx' := C_max hra
    have hi0 : 0 ≤ (i : Int) := by omega
    have hi1 : (i : Int) < (l.length : Int) := by omega
    clear hcel hcapx hra htx hx
    by_cases hm : i < m
    · have hrx : rightB x = true := by rw [HXI.out]; exact HRT.out i hm
      have HIM := Aside0.mk hm
      clear hm
      go_wp2_with (go_at_call 10; go_must (refine (refright_any x A c _ (Kd.C_below HRA.out HB.out) HTX.out.wf.2.2).mono ?_; rintro e y7 ⟨rfl, hb⟩; rw [hrx]; replace HB := Aside0.mk (HB.out.trans (hb.mono HB.out.size)); clear hb))
      go_roundg (gk - 1)
      case measure => omega
      case rel => exact ⟨i + 1, by go_num, by omega, HIM.out, HB⟩
    · have hrx : rightB x = false := by rw [HXI.out, show i = m by omega]; exact HBAD.out
      clear hm
      go_wp2_with (go_at_call 10; go_must (refine (refright_any x A c _ (Kd.C_below HRA.out HB.out) HTX.out.wf.2.2).mono ?_; rintro e y7 ⟨rfl, hb⟩; rw [hrx]; replace HB := Aside0.mk (HB.out.trans (hb.mono HB.out.size)); clear hb))
      go_ret3
      exact ⟨rfl, HB.out⟩
set_option maxHeartbeats 3200000 in
set_option maxRecDepth 100000 in
theorem fills_law (B0 : Option Addr) (n0 bc : Nat) (l : List Cel) (n : Int) (w : World) (hr : Kd.C CelD w B0 n0 l) (ht : ∀ x ∈ l, CelTy x) :
    Calls Try.prog 4 #[.slice B0 n0 bc, .int .i64 n] w fun e w' => e = .returned (.bool true) ∧ Below w.heap.size w w' := by
  obtain rfl := Kd.C_len hr
  have hmx := Kd.C_max hr
  have HR := Aside0.mk hr
  have HT := Aside0.mk ht
  clear hr ht
  have HB := Aside0.mk (Below.refl w.heap.size w)
  by_cases hlen : 20 < l.length
  · have g0 : decide (20 < (l.length : Int)) = true := decide_eq_true (by omega)
    go_enter Try.func4, Try.ntmps4
    go_wp2_with (go_at_call 9; go_must (refine (awake13_any _).mono ?_; rintro e w1 ⟨rfl, hb⟩; clear HB; have HB := Aside0.mk hb; clear hb))
    go_ret
    exact ⟨rfl, HB.out⟩
  have g0 : decide (20 < (l.length : Int)) = false := decide_eq_false (by omega)
  have hl20 : l.length ≤ 20 := by omega
  clear hlen
  by_cases hall : ∀ x ∈ l, rightB x = true
  · have HRT := Aside0.mk hall
    have hul := (fillP_lens (l.map encS)).2
    rw [List.length_map] at hul
    obtain ⟨u, hu⟩ : ∃ u, u = fillP (l.map encS) := ⟨_, rfl⟩
    rw [← hu] at hul
    have HUD := Aside0.mk hu
    obtain ⟨a, p⟩ := u
    simp only at hul
    obtain ⟨na, hna⟩ : ∃ n, n = a.length := ⟨_, rfl⟩
    have HNA := Aside0.mk hna
    have HUL := Aside0.mk hul
    clear hu hna hall hul
    go_enter Try.func4, Try.ntmps4
    go_wp2_with (first
      | (go_at_call 9; go_must (refine (awake13_any _).mono ?_; rintro e w1 ⟨rfl, hb⟩; clear HB; have HB := Aside0.mk hb; clear hb))
      | (go_at_call 11; go_must (refine (fill_any B0 l.length bc l _ (Kd.C_below HR.out HB.out) HT.out (by omega) HRT.out).mono ?_; rintro e y1 ⟨⟨va, vp, rfl, ha, hp⟩, hb⟩; rw [← HUD.out] at ha hp; simp only at ha hp; obtain ⟨Aa, ca, rfl⟩ := Kd.S_slice ha; obtain ⟨Ap, cp, rfl⟩ := Kd.R_slice hp; rw [← HNA.out] at ha ⊢; rw [HUL.out] at hp ⊢; have HA := Aside0.mk ha; have HP := Aside0.mk hp; replace HB := Aside0.mk (HB.out.trans (hb.mono HB.out.size)); clear ha hp hb))
      | (go_at_call 13; go_must (refine (reffill_any B0 l.length bc l _ (Kd.C_below HR.out HB.out) HT.out (by omega) HRT.out).mono ?_; rintro e y2 ⟨⟨vb, vq, rfl, ha, hp⟩, hb⟩; rw [← HUD.out] at ha hp; simp only at ha hp; obtain ⟨Ab, cb, rfl⟩ := Kd.S_slice ha; obtain ⟨Aq, cq, rfl⟩ := Kd.R_slice hp; rw [← HNA.out] at ha ⊢; rw [HUL.out] at hp ⊢; replace HA := Aside0.mk (Kd.C_below (Kd.S_reads' HA.out).2.2 hb); replace HP := Aside0.mk (Kd.C_below (Kd.R_reads' HP.out).2.2 hb); have HA2 := Aside0.mk (Kd.S_reads' ha).2.2; have HP2 := Aside0.mk (Kd.R_reads' hp).2.2; rw [HUL.out] at HP HP2; rw [← HNA.out] at HA HA2; replace HB := Aside0.mk (HB.out.trans (hb.mono HB.out.size)); clear ha hp hb))
      | (go_at_call 14; go_must (refine (rows_yes Aa na ca a Ab na cb a _ HA.out HA2.out rfl).mono ?_; rintro e y3 ⟨rfl, hb⟩; replace HP := Aside0.mk (Kd.C_below HP.out hb); replace HP2 := Aside0.mk (Kd.C_below HP2.out hb); replace HB := Aside0.mk (HB.out.trans (hb.mono HB.out.size)); clear hb)))
    have HB0 := HB
    clear HB HA HA2
    have HB := Aside0.mk (Below.refl y3.heap.size y3)
    go_loopg [11] l.length (fun gk v w' => ∃ j2 : Nat, v = .int .i64 (j2 : Int) ∧ j2 + gk = l.length ∧ Aside0 (Below y3.heap.size y3 w'))
    case atStart => exact ⟨0, rfl, by omega, HB⟩
    case round =>
      clear HB
      obtain ⟨j2, rfl, hj2, HB⟩ := hrel
      by_cases hlt3 : j2 < l.length
      · obtain ⟨ap, rfl, he1⟩ := C_at HP.out j2 hlt3
        obtain ⟨aq, rfl, he2⟩ := C_at HP2.out j2 hlt3
        obtain ⟨z, hzz⟩ : ∃ z, z = nth p j2 := ⟨_, rfl⟩
        rw [← hzz] at he1 he2
        have HE1 := Aside0.mk he1
        have HE2 := Aside0.mk he2
        have hj0 : 0 ≤ (j2 : Int) := by omega
        have hj1 : (j2 : Int) < (l.length : Int) := by omega
        clear he1 he2 hzz
        go_wp2_with (fail)
        refine start_ (n := 9) (S := fun w' => w'.cell? (ap.add j2) = some (.int .i64 z) ∧ w'.cell? (aq.add j2) = some (.int .i64 z)) (ds := []) #[false, false, false, false, false, false, false, false, false] (by kernel_rfl) rfl rfl ⟨pw_cell_below (below_drew HB.out) HE1.out, pw_cell_below (below_drew HB.out) HE2.out⟩ (fun hHeld => ?_); refine with_tab tabPl14_ok (fun HT_ => ?_)
        have hb : Below wr.heap.size wr wr.drew := below_drew (Below.refl _ _)
        replace HB := Aside0.mk (HB.out.trans (hb.mono HB.out.size))
        clear hb
        refine pure_ (i := 0) (N := some 64) (v := ?_) (a' := ?_) #[true, false, false, false, false, false, false, false, false] rfl rfl (any_of HT_.out (by kernel_rfl)) (fun _ _ _ h => h) (Or.inl ⟨by rfl, ?_⟩) ?_ ?_
        rotate_left
        · intro w'
          go_simp
          with_reducible rfl
        rotate_left
        · simp only [Act.put, List.setIfInBounds_toArray, List.set_cons_zero, List.set_cons_succ]
          rfl
        refine pure_ (i := 1) (N := some 65) (v := ?_) (a' := ?_) #[true, true, false, false, false, false, false, false, false] rfl rfl (any_of HT_.out (by kernel_rfl)) (fun _ _ _ h => h) (Or.inl ⟨by rfl, ?_⟩) ?_ ?_
        rotate_left
        · intro w'
          go_simp
          with_reducible rfl
        rotate_left
        · simp only [Act.put, List.setIfInBounds_toArray, List.set_cons_zero, List.set_cons_succ]
          rfl
        refine pure_ (i := 2) (N := some 66) (v := ?_) (a' := ?_) #[true, true, true, false, false, false, false, false, false] rfl rfl (any_of HT_.out (by kernel_rfl)) (fun _ _ _ h => h) (Or.inl ⟨by rfl, ?_⟩) ?_ ?_
        rotate_left
        · intro w'
          go_simp
          with_reducible rfl
        rotate_left
        · simp only [Act.put, List.setIfInBounds_toArray, List.set_cons_zero, List.set_cons_succ]
          rfl
        refine take_ (i := 3) (N := some 67) (v := ?_) (a' := ?_) #[true, true, true, true, false, false, false, false, false] rfl rfl (take_of HT_.out (by kernel_rfl)) (fun _ _ _ h => h) (Or.inl ⟨by rfl, ?_⟩) hHeld ?_ ?_
        rotate_left
        · intro w' hw'
          obtain ⟨s0, s1⟩ := hw'
          go_simp
          with_reducible rfl
        rotate_left
        · simp only [Act.put, List.setIfInBounds_toArray, List.set_cons_zero, List.set_cons_succ]
          rfl
        refine pure_ (i := 4) (N := some 68) (v := ?_) (a' := ?_) #[true, true, true, true, true, false, false, false, false] rfl rfl (any_of HT_.out (by kernel_rfl)) (fun _ _ _ h => h) (Or.inl ⟨by rfl, ?_⟩) ?_ ?_
        rotate_left
        · intro w'
          go_simp
          with_reducible rfl
        rotate_left
        · simp only [Act.put, List.setIfInBounds_toArray, List.set_cons_zero, List.set_cons_succ]
          rfl
        refine pure_ (i := 5) (N := some 69) (v := ?_) (a' := ?_) #[true, true, true, true, true, true, false, false, false] rfl rfl (any_of HT_.out (by kernel_rfl)) (fun _ _ _ h => h) (Or.inl ⟨by rfl, ?_⟩) ?_ ?_
        rotate_left
        · intro w'
          go_simp
          with_reducible rfl
        rotate_left
        · simp only [Act.put, List.setIfInBounds_toArray, List.set_cons_zero, List.set_cons_succ]
          rfl
        refine pure_ (i := 6) (N := some 70) (v := ?_) (a' := ?_) #[true, true, true, true, true, true, true, false, false] rfl rfl (any_of HT_.out (by kernel_rfl)) (fun _ _ _ h => h) (Or.inl ⟨by rfl, ?_⟩) ?_ ?_
        rotate_left
        · intro w'
          go_simp
          with_reducible rfl
        rotate_left
        · simp only [Act.put, List.setIfInBounds_toArray, List.set_cons_zero, List.set_cons_succ]
          rfl
        refine take_ (i := 7) (N := some 71) (v := ?_) (a' := ?_) #[true, true, true, true, true, true, true, true, false] rfl rfl (take_of HT_.out (by kernel_rfl)) (fun _ _ _ h => h) (Or.inl ⟨by rfl, ?_⟩) hHeld ?_ ?_
        rotate_left
        · intro w' hw'
          obtain ⟨s0, s1⟩ := hw'
          go_simp
          with_reducible rfl
        rotate_left
        · simp only [Act.put, List.setIfInBounds_toArray, List.set_cons_zero, List.set_cons_succ]
          rfl
        refine pure_ (i := 8) (N := some 72) (v := (.bool false)) (a' := ?_) #[true, true, true, true, true, true, true, true, true] rfl rfl (any_of HT_.out (by kernel_rfl)) (fun _ _ _ h => h) (Or.inl ⟨by rfl, ?_⟩) ?_ ?_
        · intro w'
          go_simp
          first | done | rfl | (simp; done) | trace_state
        rotate_left
        · simp only [Act.put, List.setIfInBounds_toArray, List.set_cons_zero, List.set_cons_succ]
          rfl
        refine done_ (done_of HT_.out (by kernel_rfl)) ?_
        clear HT_ hHeld
        go_wp2
        go_roundg (gk - 1)
        case measure => omega
        case rel => exact ⟨j2 + 1, by go_num, by omega, HB⟩
      · rcases Int.lt_trichotomy n 0 with h | h | h
        · have HE := Aside0.mk (show maxS n = 0 by rw [maxS, if_pos (by omega)])
          have h1 : ¬ 0 < n := by omega
          have h2 : ¬ 0 ≤ n := by omega
          have h3 : n ≤ 0 := by omega
          go_wp2_with (go_at_call 15; go_must (refine (worst_any n _).mono ?_; rintro e y5 ⟨rfl, rfl⟩; rw [HE.out]))
          go_ret
          exact ⟨rfl, HB0.out.trans (HB.out.mono HB0.out.size)⟩
        · subst h
          have HE := Aside0.mk (show maxS 0 = 0 from rfl)
          go_wp2_with (go_at_call 15; go_must (refine (worst_any 0 _).mono ?_; rintro e y5 ⟨rfl, rfl⟩; rw [HE.out]))
          go_ret
          exact ⟨rfl, HB0.out.trans (HB.out.mono HB0.out.size)⟩
        · have HE := Aside0.mk (show maxS n = n by rw [maxS, if_neg (by omega)])
          have h1 : ¬ n < 0 := by omega
          have h2 : ¬ n ≤ 0 := by omega
          have h3 : 0 ≤ n := by omega
          go_wp2_with (go_at_call 15; go_must (refine (worst_any n _).mono ?_; rintro e y5 ⟨rfl, rfl⟩; rw [HE.out]))
          go_ret
          exact ⟨rfl, HB0.out.trans (HB.out.mono HB0.out.size)⟩
  · have hno : ∃ x ∈ l, rightB x = false := by
      apply Classical.byContradiction
      intro h
      refine hall (fun x hx => ?_)
      cases hq : rightB x with
      | true => rfl
      | false => exact absurd ⟨x, hx, hq⟩ h
    have HNO := Aside0.mk hno
    clear hall hno
    go_enter Try.func4, Try.ntmps4
    go_wp2_with (first
      | (go_at_call 9; go_must (refine (awake13_any _).mono ?_; rintro e w1 ⟨rfl, hb⟩; clear HB; have HB := Aside0.mk hb; clear hb))
      | (go_at_call 11; go_must (refine (fill_no B0 l.length bc l _ (Kd.C_below HR.out HB.out) HT.out (by omega) HNO.out).mono ?_; rintro e y1 ⟨rfl, hb⟩; replace HB := Aside0.mk (HB.out.trans (hb.mono HB.out.size)); clear hb))
      | (go_at_call 13; go_must (refine (reffill_no B0 l.length bc l _ (Kd.C_below HR.out HB.out) HT.out (by omega) HNO.out).mono ?_; rintro e y2 ⟨rfl, hb⟩; replace HB := Aside0.mk (HB.out.trans (hb.mono HB.out.size)); clear hb)))
    go_ret
    exact ⟨rfl, HB.out⟩
end Go.Proofs.Ytghcnipehgjegaa.Cell
