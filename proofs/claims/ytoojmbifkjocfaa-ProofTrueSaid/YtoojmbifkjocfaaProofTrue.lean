/- ProofTrue answers true for everything found, all moments and every first bad one. No conditions. -/
import Derived.Test.YtoojmbifkjocfaaAgain
namespace Go.Proofs.Ytoojmbifkjocfaa.Proof
open Go.RowKit Go.Proofs.YtoojmbifkjocfaaW.PrintWords Go.Proofs.YtoojmbifkjocfaaW.PrintLast Go.Proofs.YtoojmbifkjocfaaW.PrintMore Go.Proofs.Ytoojmbifkjocfaa.Kit Go.Proofs.Ytoojmbifkjocfaa.Plain
set_option linter.unusedVariables false
set_option linter.unusedSimpArgs false
def tabT12 : Bool × List (List Nat × List Nat) := (true, [([], []), ([], []), ([0, 1], [0, 1]), ([2], [2]), ([], []), ([3, 4], [3, 4])])
theorem tabT12_ok : rtab .any (opsOf Try.f6 12) = tabT12 := by kernel_rfl
theorem two_news {w w' : World} {o1 o2 : Obj} (hb : Below ((w.alloc o1).alloc o2).heap.size ((w.alloc o1).alloc o2) w') : w'.heap[w.heap.size]? = some o1 ∧ w'.heap[w.heap.size + 1]? = some o2 ∧ Below w.heap.size w w' := by
  refine ⟨(hb.block _ (by simp; omega)).trans (blk_alloc (blk_new w o1) o2), ?_, (below_alloc (below_alloc (Below.refl _ _) _) _).trans (hb.mono (by simp; omega))⟩
  have h1 := blk_new (w.alloc o1) o2
  have h2 : (w.alloc o1).heap.size = w.heap.size + 1 := by simp
  rw [h2] at h1
  exact (hb.block _ (by simp)).trans h1
set_option maxHeartbeats 1600000 in
set_option maxRecDepth 100000 in
theorem true_any (cs : Array Value) (y : Int × Bool × List (Int × Bool)) (A : Option Addr) (k c : Nat) (ms : List Int) (n : Int) (w : World) (hy : FdK.K w y cs.toList) (hr : RdM w A k ms)
    (hm : (Lit.int .u64 y.1).wf = true) (hL : ∀ p ∈ y.2.2, (Lit.int .u64 p.1).wf = true) (hms : ∀ x ∈ ms, (Lit.int .u64 x).wf = true) :
    Calls Try.prog 6 #[.agg cs, .slice A k c, .int .u64 n] w fun e w' => e = .returned (.bool true) ∧ Below w.heap.size w w' := by
  obtain ⟨m, ok, L⟩ := y
  obtain ⟨A4, c4, rfl, hc4, hr4⟩ := found_open hy
  simp only at hc4 hr4 hm hL
  obtain rfl := C_len hr
  have HWF := Aside0.mk (And.intro hm (And.intro hL hms))
  have hmx := C_max hr
  have hmx4 := C_max hr4
  have HR := Aside0.mk hr
  have HR4 := Aside0.mk hr4
  clear hy hr hr4 hm hL hms
  have hmf : ∀ (fn : Fn) (first cap : Array Value) (w : World), (Instr.makeFunc fn first cap).run Try.prog w = .ok (.func fn first cap) w := fun _ _ _ _ => rfl
  by_cases h0 : 40 < L.length
  · have g0 : decide (40 < (L.length : Int)) = true := decide_eq_true (by omega)
    go_enter Try.func6, Try.ntmps6
    go_wp2_with (go_at_call 10; go_must (refine (awake_any _).mono ?_; rintro e w1 ⟨rfl, hb⟩; obtain ⟨hk1, hk2, hb3⟩ := two_news hb; have HK := Aside0.mk (show w1.heap[w.heap.size]? = some (foundObj m ok (.slice A4 L.length c4)) from hk1); have HFC := Aside0.mk (show w1.cell? ⟨w.heap.size + 1, 0, none⟩ = some (.int .u64 n) from blk_cell hk2 0); have HB := Aside0.mk hb3; (try clear x0 x1 x2); obtain ⟨x0, x1, x2⟩ := found_cells HK.out; clear hb hb3 hk1 hk2))
    go_ret
    exact ⟨rfl, HB.out⟩
  have g0 : decide (40 < (L.length : Int)) = false := decide_eq_false (by omega)
  by_cases h1 : 40 < ms.length
  · have g1 : decide (40 < (ms.length : Int)) = true := decide_eq_true (by omega)
    go_enter Try.func6, Try.ntmps6
    go_wp2_with (go_at_call 10; go_must (refine (awake_any _).mono ?_; rintro e w1 ⟨rfl, hb⟩; obtain ⟨hk1, hk2, hb3⟩ := two_news hb; have HK := Aside0.mk (show w1.heap[w.heap.size]? = some (foundObj m ok (.slice A4 L.length c4)) from hk1); have HFC := Aside0.mk (show w1.cell? ⟨w.heap.size + 1, 0, none⟩ = some (.int .u64 n) from blk_cell hk2 0); have HB := Aside0.mk hb3; (try clear x0 x1 x2); obtain ⟨x0, x1, x2⟩ := found_cells HK.out; clear hb hb3 hk1 hk2))
    go_ret
    exact ⟨rfl, HB.out⟩
  have g1 : decide (40 < (ms.length : Int)) = false := decide_eq_false (by omega)
  cases hs : standB m ok L ms with
  | false =>
    go_enter Try.func6, Try.ntmps6
    go_wp2_with (first
      | (go_at_call 10; go_must (refine (awake_any _).mono ?_; rintro e w1 ⟨rfl, hb⟩; obtain ⟨hk1, hk2, hb3⟩ := two_news hb; have HK := Aside0.mk (show w1.heap[w.heap.size]? = some (foundObj m ok (.slice A4 L.length c4)) from hk1); have HFC := Aside0.mk (show w1.cell? ⟨w.heap.size + 1, 0, none⟩ = some (.int .u64 n) from blk_cell hk2 0); have HB := Aside0.mk hb3; (try clear x0 x1 x2); obtain ⟨x0, x1, x2⟩ := found_cells HK.out; clear hb hb3 hk1 hk2))
      | (go_at_call 11; (with_reducible refine (check_any m ok A4 L.length c4 L A ms.length c ms _ (Kd.C_below HR4.out HB.out) (Kd.C_below HR.out HB.out) HWF.out.1 HWF.out.2.1 HWF.out.2.2).mono ?_); go_must (rintro e w2 ⟨rfl, hb⟩; rw [hs]; replace HK := Aside0.mk ((hb.block _ (blk_lt HK.out)).trans HK.out); (try clear x0 x1 x2); obtain ⟨x0, x1, x2⟩ := found_cells HK.out; replace HB := Aside0.mk (HB.out.trans (hb.mono HB.out.size)); clear hb)))
    go_ret
    exact ⟨rfl, HB.out⟩
  | true =>
    cases ha : againB L (badG n) with
    | false =>
      go_enter Try.func6, Try.ntmps6
      go_wp2_with (first
        | (go_at_call 10; go_must (refine (awake_any _).mono ?_; rintro e w1 ⟨rfl, hb⟩; obtain ⟨hk1, hk2, hb3⟩ := two_news hb; have HK := Aside0.mk (show w1.heap[w.heap.size]? = some (foundObj m ok (.slice A4 L.length c4)) from hk1); have HFC := Aside0.mk (show w1.cell? ⟨w.heap.size + 1, 0, none⟩ = some (.int .u64 n) from blk_cell hk2 0); have HB := Aside0.mk hb3; (try clear x0 x1 x2); obtain ⟨x0, x1, x2⟩ := found_cells HK.out; clear hb hb3 hk1 hk2))
        | (go_at_call 11; (with_reducible refine (check_any m ok A4 L.length c4 L A ms.length c ms _ (Kd.C_below HR4.out HB.out) (Kd.C_below HR.out HB.out) HWF.out.1 HWF.out.2.1 HWF.out.2.2).mono ?_); go_must (rintro e w2 ⟨rfl, hb⟩; rw [hs]; replace HK := Aside0.mk ((hb.block _ (blk_lt HK.out)).trans HK.out); (try clear x0 x1 x2); obtain ⟨x0, x1, x2⟩ := found_cells HK.out; replace HFC := Aside0.mk (pw_cell_below hb HFC.out); replace HB := Aside0.mk (HB.out.trans (hb.mono HB.out.size)); clear hb))
        | (go_at_call 15; go_must (refine (again_true m ok A4 L.length c4 L _ n (w.heap.size + 1) (Kd.C_below HR4.out HB.out) HWF.out.2.1 HFC.out).mono ?_; rintro e w3 ⟨rfl, hb⟩; rw [ha]; replace HK := Aside0.mk ((hb.block _ (blk_lt HK.out)).trans HK.out); (try clear x0 x1 x2); obtain ⟨x0, x1, x2⟩ := found_cells HK.out; replace HB := Aside0.mk (HB.out.trans (hb.mono HB.out.size)); clear hb)))
      go_ret
      exact ⟨rfl, HB.out⟩
    | true =>
      have HE := Aside0.mk (stand_true hs (fun p hp => (of_decide_eq_true ha) p hp))
      go_enter Try.func6, Try.ntmps6
      go_wp2_with (first
        | (go_at_call 10; go_must (refine (awake_any _).mono ?_; rintro e w1 ⟨rfl, hb⟩; obtain ⟨hk1, hk2, hb3⟩ := two_news hb; have HK := Aside0.mk (show w1.heap[w.heap.size]? = some (foundObj m ok (.slice A4 L.length c4)) from hk1); have HFC := Aside0.mk (show w1.cell? ⟨w.heap.size + 1, 0, none⟩ = some (.int .u64 n) from blk_cell hk2 0); have HB := Aside0.mk hb3; (try clear x0 x1 x2); obtain ⟨x0, x1, x2⟩ := found_cells HK.out; clear hb hb3 hk1 hk2))
        | (go_at_call 11; (with_reducible refine (check_any m ok A4 L.length c4 L A ms.length c ms _ (Kd.C_below HR4.out HB.out) (Kd.C_below HR.out HB.out) HWF.out.1 HWF.out.2.1 HWF.out.2.2).mono ?_); go_must (rintro e w2 ⟨rfl, hb⟩; rw [hs]; replace HK := Aside0.mk ((hb.block _ (blk_lt HK.out)).trans HK.out); (try clear x0 x1 x2); obtain ⟨x0, x1, x2⟩ := found_cells HK.out; replace HFC := Aside0.mk (pw_cell_below hb HFC.out); replace HB := Aside0.mk (HB.out.trans (hb.mono HB.out.size)); clear hb))
        | (go_at_call 15; go_must (refine (again_true m ok A4 L.length c4 L _ n (w.heap.size + 1) (Kd.C_below HR4.out HB.out) HWF.out.2.1 HFC.out).mono ?_; rintro e w3 ⟨rfl, hb⟩; rw [ha]; replace HFC := Aside0.mk (pw_cell_below hb HFC.out); replace HK := Aside0.mk ((hb.block _ (blk_lt HK.out)).trans HK.out); (try clear x0 x1 x2); obtain ⟨x0, x1, x2⟩ := found_cells HK.out; replace HB := Aside0.mk (HB.out.trans (hb.mono HB.out.size)); clear hb)))
      replace HR := Aside0.mk (Kd.C_below HR.out HB.out)
      clear x0 x1 x2
      go_loopg [8, 9, 10] ms.length (fun gk v8 v9 v10 w' => ∃ i : Nat, v8 = .int .u64 (lastG ms n i).1 ∧ v9 = .bool (lastG ms n i).2 ∧ v10 = .int .i64 (i : Int) ∧ i + gk = ms.length ∧ Aside0 (Below w3.heap.size w3 w'))
      case atStart => exact ⟨0, rfl, rfl, rfl, by omega, ⟨Below.refl _ _⟩⟩
      case round =>
        obtain ⟨i, rfl, rfl, rfl, hig, HV⟩ := hrel
        by_cases hi : i < ms.length
        · obtain ⟨ad, rfl, hc1⟩ := C_at HR.out i hi
          have HC1 := Aside0.mk hc1
          have hi0 : (0 : Int) ≤ (i : Int) := by omega
          have hi1 : (i : Int) < (ms.length : Int) := by omega
          have hcd := pw_cell_below (below_drew HV.out) hc1
          clear hc1
          by_cases hn : nth ms i < n
          · have f1 : decide (nth ms i < n) = true := decide_eq_true hn
            have e1 : lastG ms n (i + 1) = (nth ms i, true) := by rw [lastG, if_pos hn]
            have HE1 := Aside0.mk e1
            clear hn e1
            go_wp2_with (fail)
            refine start_ (n := 6) (S := fun w' => w'.cell? (ad.add i) = some (.int .u64 (nth ms i)) ∧ w'.cell? ⟨w.heap.size + 1, 0, none⟩ = some (.int .u64 n)) (ds := []) #[false, false, false, false, false, false] (by kernel_rfl) rfl rfl ⟨pw_cell_below (below_drew HV.out) HC1.out, pw_cell_below (below_drew HV.out) HFC.out⟩ (fun hHeld => ?_); refine with_tab tabT12_ok (fun HT_ => ?_)
            have hb : Below wr.heap.size wr wr.drew := below_drew (Below.refl _ _)
            replace HV := Aside0.mk (HV.out.trans (hb.mono HV.out.size))
            clear hb
            refine pure_ (i := 0) (N := some 39) (v := ?_) (a' := ?_) #[true, false, false, false, false, false] rfl rfl (any_of HT_.out (by kernel_rfl)) (fun _ _ _ h => h) (Or.inl ⟨by rfl, ?_⟩) ?_ ?_
            rotate_left
            · intro w'
              go_simp
              with_reducible rfl
            rotate_left
            · simp only [Act.put, List.setIfInBounds_toArray, List.set_cons_zero, List.set_cons_succ]
              rfl
            refine pure_ (i := 1) (N := some 40) (v := ?_) (a' := ?_) #[true, true, false, false, false, false] rfl rfl (any_of HT_.out (by kernel_rfl)) (fun _ _ _ h => h) (Or.inl ⟨by rfl, ?_⟩) ?_ ?_
            rotate_left
            · intro w'
              go_simp
              with_reducible rfl
            rotate_left
            · simp only [Act.put, List.setIfInBounds_toArray, List.set_cons_zero, List.set_cons_succ]
              rfl
            refine pure_ (i := 2) (N := some 41) (v := ?_) (a' := ?_) #[true, true, true, false, false, false] rfl rfl (any_of HT_.out (by kernel_rfl)) (fun _ _ _ h => h) (Or.inl ⟨by rfl, ?_⟩) ?_ ?_
            rotate_left
            · intro w'
              go_simp
              with_reducible rfl
            rotate_left
            · simp only [Act.put, List.setIfInBounds_toArray, List.set_cons_zero, List.set_cons_succ]
              rfl
            refine take_ (i := 3) (N := some 42) (v := ?_) (a' := ?_) #[true, true, true, true, false, false] rfl rfl (take_of HT_.out (by kernel_rfl)) (fun _ _ _ h => h) (Or.inl ⟨by rfl, ?_⟩) hHeld ?_ ?_
            rotate_left
            · intro w' hw'
              obtain ⟨hw1, hw2⟩ := hw'
              go_simp
              with_reducible rfl
            rotate_left
            · simp only [Act.put, List.setIfInBounds_toArray, List.set_cons_zero, List.set_cons_succ]
              rfl
            refine take_ (i := 4) (N := some 43) (v := ?_) (a' := ?_) #[true, true, true, true, true, false] rfl rfl (take_of HT_.out (by kernel_rfl)) (fun _ _ _ h => h) (Or.inl ⟨by rfl, ?_⟩) hHeld ?_ ?_
            rotate_left
            · intro w' hw'
              obtain ⟨hw1, hw2⟩ := hw'
              go_simp
              with_reducible rfl
            rotate_left
            · simp only [Act.put, List.setIfInBounds_toArray, List.set_cons_zero, List.set_cons_succ]
              rfl
            refine pure_ (i := 5) (N := some 44) (v := ?_) (a' := ?_) #[true, true, true, true, true, true] rfl rfl (any_of HT_.out (by kernel_rfl)) (fun _ _ _ h => h) (Or.inl ⟨by rfl, ?_⟩) ?_ ?_
            rotate_left
            · intro w'
              go_simp
              with_reducible rfl
            rotate_left
            · simp only [Act.put, List.setIfInBounds_toArray, List.set_cons_zero, List.set_cons_succ]
              rfl
            refine done_ (done_of HT_.out (by kernel_rfl)) ?_
            clear HT_ hHeld
            go_wp2
            go_roundg (gk - 1)
            case measure => omega
            case rel => exact ⟨i + 1, by rw [HE1.out], by rw [HE1.out], by go_num, by omega, HV⟩
          · have f1 : decide (nth ms i < n) = false := decide_eq_false hn
            have e1 : lastG ms n (i + 1) = lastG ms n i := by rw [lastG, if_neg hn]
            have HE1 := Aside0.mk e1
            clear hn e1
            go_wp2_with (fail)
            refine start_ (n := 6) (S := fun w' => w'.cell? (ad.add i) = some (.int .u64 (nth ms i)) ∧ w'.cell? ⟨w.heap.size + 1, 0, none⟩ = some (.int .u64 n)) (ds := []) #[false, false, false, false, false, false] (by kernel_rfl) rfl rfl ⟨pw_cell_below (below_drew HV.out) HC1.out, pw_cell_below (below_drew HV.out) HFC.out⟩ (fun hHeld => ?_); refine with_tab tabT12_ok (fun HT_ => ?_)
            have hb : Below wr.heap.size wr wr.drew := below_drew (Below.refl _ _)
            replace HV := Aside0.mk (HV.out.trans (hb.mono HV.out.size))
            clear hb
            refine pure_ (i := 0) (N := some 39) (v := ?_) (a' := ?_) #[true, false, false, false, false, false] rfl rfl (any_of HT_.out (by kernel_rfl)) (fun _ _ _ h => h) (Or.inl ⟨by rfl, ?_⟩) ?_ ?_
            rotate_left
            · intro w'
              go_simp
              with_reducible rfl
            rotate_left
            · simp only [Act.put, List.setIfInBounds_toArray, List.set_cons_zero, List.set_cons_succ]
              rfl
            refine pure_ (i := 1) (N := some 40) (v := ?_) (a' := ?_) #[true, true, false, false, false, false] rfl rfl (any_of HT_.out (by kernel_rfl)) (fun _ _ _ h => h) (Or.inl ⟨by rfl, ?_⟩) ?_ ?_
            rotate_left
            · intro w'
              go_simp
              with_reducible rfl
            rotate_left
            · simp only [Act.put, List.setIfInBounds_toArray, List.set_cons_zero, List.set_cons_succ]
              rfl
            refine pure_ (i := 2) (N := some 41) (v := ?_) (a' := ?_) #[true, true, true, false, false, false] rfl rfl (any_of HT_.out (by kernel_rfl)) (fun _ _ _ h => h) (Or.inl ⟨by rfl, ?_⟩) ?_ ?_
            rotate_left
            · intro w'
              go_simp
              with_reducible rfl
            rotate_left
            · simp only [Act.put, List.setIfInBounds_toArray, List.set_cons_zero, List.set_cons_succ]
              rfl
            refine take_ (i := 3) (N := some 42) (v := ?_) (a' := ?_) #[true, true, true, true, false, false] rfl rfl (take_of HT_.out (by kernel_rfl)) (fun _ _ _ h => h) (Or.inl ⟨by rfl, ?_⟩) hHeld ?_ ?_
            rotate_left
            · intro w' hw'
              obtain ⟨hw1, hw2⟩ := hw'
              go_simp
              with_reducible rfl
            rotate_left
            · simp only [Act.put, List.setIfInBounds_toArray, List.set_cons_zero, List.set_cons_succ]
              rfl
            refine take_ (i := 4) (N := some 43) (v := ?_) (a' := ?_) #[true, true, true, true, true, false] rfl rfl (take_of HT_.out (by kernel_rfl)) (fun _ _ _ h => h) (Or.inl ⟨by rfl, ?_⟩) hHeld ?_ ?_
            rotate_left
            · intro w' hw'
              obtain ⟨hw1, hw2⟩ := hw'
              go_simp
              with_reducible rfl
            rotate_left
            · simp only [Act.put, List.setIfInBounds_toArray, List.set_cons_zero, List.set_cons_succ]
              rfl
            refine pure_ (i := 5) (N := some 44) (v := ?_) (a' := ?_) #[true, true, true, true, true, true] rfl rfl (any_of HT_.out (by kernel_rfl)) (fun _ _ _ h => h) (Or.inl ⟨by rfl, ?_⟩) ?_ ?_
            rotate_left
            · intro w'
              go_simp
              with_reducible rfl
            rotate_left
            · simp only [Act.put, List.setIfInBounds_toArray, List.set_cons_zero, List.set_cons_succ]
              rfl
            refine done_ (done_of HT_.out (by kernel_rfl)) ?_
            clear HT_ hHeld
            go_wp2
            go_roundg (gk - 1)
            case measure => omega
            case rel => exact ⟨i + 1, by rw [HE1.out], by rw [HE1.out], by go_num, by omega, HV⟩
        · obtain rfl : i = ms.length := by omega
          rw [HE.out]
          obtain ⟨x0, x1, x2⟩ := found_cells ((HV.out.block _ (blk_lt HK.out)).trans HK.out)
          go_wp2
          go_ret
          exact ⟨rfl, HB.out.trans (HV.out.mono HB.out.size)⟩
end Go.Proofs.Ytoojmbifkjocfaa.Proof
