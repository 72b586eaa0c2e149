/- ProofLies answers true for everything found, all moments and every other answer. No conditions. -/
import Derived.Test.YtoojmbifkjocfaaProofUse
namespace Go.Proofs.Ytoojmbifkjocfaa.Proof
open Go.RowKit Go.Proofs.YtoojmbifkjocfaaW.PrintWords Go.Proofs.YtoojmbifkjocfaaW.PrintLast Go.Proofs.YtoojmbifkjocfaaW.PrintMore Go.Proofs.Ytoojmbifkjocfaa.Kit Go.Proofs.Ytoojmbifkjocfaa.Plain
set_option linter.unusedVariables false
set_option linter.unusedSimpArgs false
set_option maxHeartbeats 1600000 in
set_option maxRecDepth 100000 in
theorem lies_any (cs : Array Value) (y : Int × Bool × List (Int × Bool)) (A : Option Addr) (n c : Nat) (ms : List Int) (o : Int) (ok' : Bool) (w : World) (hy : FdK.K w y cs.toList) (hr : RdM w A n ms)
    (hm : (Lit.int .u64 y.1).wf = true) (hL : ∀ p ∈ y.2.2, (Lit.int .u64 p.1).wf = true) (hms : ∀ x ∈ ms, (Lit.int .u64 x).wf = true) (ho : (Lit.int .u64 o).wf = true) :
    Calls Try.prog 5 #[.agg cs, .slice A n c, .int .u64 o, .bool ok'] w fun e w' => e = .returned (.bool true) ∧ Below w.heap.size w w' := by
  obtain ⟨m, ok, L⟩ := y
  obtain ⟨A4, c4, rfl, hc4, hr4⟩ := found_open hy
  simp only at hc4 hr4 hm hL
  obtain rfl := C_len hr
  have HWF := Aside0.mk (And.intro hm (And.intro hL hms))
  have hmx := C_max hr
  have hmx4 := C_max hr4
  have HR := Aside0.mk hr
  have HR4 := Aside0.mk hr4
  have HO := Aside0.mk ho
  clear hy hr hr4 hm hL hms ho
  by_cases h0 : 40 < L.length
  · have g0 : decide (40 < (L.length : Int)) = true := decide_eq_true (by omega)
    go_enter Try.func5, Try.ntmps5
    go_wp2_with (go_at_call 10; go_must (refine (awake_any _).mono ?_; rintro e w1 ⟨rfl, hb⟩; have HK := Aside0.mk (show w1.heap[w.heap.size]? = some (foundObj m ok (.slice A4 L.length c4)) from (hb.block _ (by simp; try omega)).trans (blk_new w _)); have HB := Aside0.mk (one_new hb); (try clear x0 x1 x2); obtain ⟨x0, x1, x2⟩ := found_cells HK.out; clear hb))
    go_ret
    exact ⟨rfl, HB.out⟩
  have g0 : decide (40 < (L.length : Int)) = false := decide_eq_false (by omega)
  by_cases h1 : 40 < ms.length
  · have g1 : decide (40 < (ms.length : Int)) = true := decide_eq_true (by omega)
    go_enter Try.func5, Try.ntmps5
    go_wp2_with (go_at_call 10; go_must (refine (awake_any _).mono ?_; rintro e w1 ⟨rfl, hb⟩; have HK := Aside0.mk (show w1.heap[w.heap.size]? = some (foundObj m ok (.slice A4 L.length c4)) from (hb.block _ (by simp; try omega)).trans (blk_new w _)); have HB := Aside0.mk (one_new hb); (try clear x0 x1 x2); obtain ⟨x0, x1, x2⟩ := found_cells HK.out; clear hb))
    go_ret
    exact ⟨rfl, HB.out⟩
  have g1 : decide (40 < (ms.length : Int)) = false := decide_eq_false (by omega)
  cases hs : standB m ok L ms with
  | false =>
    go_enter Try.func5, Try.ntmps5
    go_wp2_with (first
      | (go_at_call 10; go_must (refine (awake_any _).mono ?_; rintro e w1 ⟨rfl, hb⟩; have HK := Aside0.mk (show w1.heap[w.heap.size]? = some (foundObj m ok (.slice A4 L.length c4)) from (hb.block _ (by simp; try omega)).trans (blk_new w _)); have HB := Aside0.mk (one_new hb); (try clear x0 x1 x2); obtain ⟨x0, x1, x2⟩ := found_cells HK.out; clear hb))
      | (go_at_call 11; (with_reducible refine (check_any m ok A4 L.length c4 L A ms.length c ms _ (Kd.C_below HR4.out HB.out) (Kd.C_below HR.out HB.out) HWF.out.1 HWF.out.2.1 HWF.out.2.2).mono ?_); go_must (rintro e w2 ⟨rfl, hb⟩; rw [hs]; replace HK := Aside0.mk ((hb.block _ (blk_lt HK.out)).trans HK.out); (try clear x0 x1 x2); obtain ⟨x0, x1, x2⟩ := found_cells HK.out; replace HB := Aside0.mk (HB.out.trans (hb.mono HB.out.size)); clear hb)))
    go_ret
    exact ⟨rfl, HB.out⟩
  | true =>
    cases ok' with
    | true =>
      by_cases hom : o = m
      · obtain rfl : m = o := hom.symm
        clear hom
        cases ok with
        | true =>
          have hq := hs
          go_enter Try.func5, Try.ntmps5
          go_wp2_with (first
            | (go_at_call 10; go_must (refine (awake_any _).mono ?_; rintro e w1 ⟨rfl, hb⟩; have HK := Aside0.mk (show w1.heap[w.heap.size]? = some (foundObj m true (.slice A4 L.length c4)) from (hb.block _ (by simp; try omega)).trans (blk_new w _)); have HB := Aside0.mk (one_new hb); (try clear x0 x1 x2); obtain ⟨x0, x1, x2⟩ := found_cells HK.out; clear hb))
            | (go_at_call 11; (with_reducible refine (check_any m true A4 L.length c4 L A ms.length c ms _ (Kd.C_below HR4.out HB.out) (Kd.C_below HR.out HB.out) HWF.out.1 HWF.out.2.1 HWF.out.2.2).mono ?_); go_must (rintro e w2 ⟨rfl, hb⟩; rw [hs]; replace HK := Aside0.mk ((hb.block _ (blk_lt HK.out)).trans HK.out); (try clear x0 x1 x2); obtain ⟨x0, x1, x2⟩ := found_cells HK.out; replace HB := Aside0.mk (HB.out.trans (hb.mono HB.out.size)); clear hb; have hka := blk_alloc HK.out (.cells #[  .int .u64 m, .bool true, .slice A4 L.length c4] 25); obtain ⟨z0, z1, z2⟩ := found_cells hka; have HBG := Aside0.mk (HB.out.alloc HB.out.size (.cells #[  .int .u64 m, .bool true, .slice A4 L.length c4] 25))))
            | (go_at_call 11; go_must (refine (check_any m true A4 L.length c4 L A ms.length c ms _ (Kd.C_below HR4.out HBG.out) (Kd.C_below HR.out HBG.out) HO.out HWF.out.2.1 HWF.out.2.2).mono ?_; rintro e w3 ⟨rfl, hb⟩; rw [hq]; have HBE := Aside0.mk (HBG.out.trans (hb.mono HBG.out.size)); clear hb)))
          go_ret
          exact ⟨rfl, HBE.out⟩
        | false =>
          have hq : standB m true L ms = false := stand_lies hs (fun h => absurd h.2 (by decide))
          go_enter Try.func5, Try.ntmps5
          go_wp2_with (first
            | (go_at_call 10; go_must (refine (awake_any _).mono ?_; rintro e w1 ⟨rfl, hb⟩; have HK := Aside0.mk (show w1.heap[w.heap.size]? = some (foundObj m false (.slice A4 L.length c4)) from (hb.block _ (by simp; try omega)).trans (blk_new w _)); have HB := Aside0.mk (one_new hb); (try clear x0 x1 x2); obtain ⟨x0, x1, x2⟩ := found_cells HK.out; clear hb))
            | (go_at_call 11; (with_reducible refine (check_any m false A4 L.length c4 L A ms.length c ms _ (Kd.C_below HR4.out HB.out) (Kd.C_below HR.out HB.out) HWF.out.1 HWF.out.2.1 HWF.out.2.2).mono ?_); go_must (rintro e w2 ⟨rfl, hb⟩; rw [hs]; replace HK := Aside0.mk ((hb.block _ (blk_lt HK.out)).trans HK.out); (try clear x0 x1 x2); obtain ⟨x0, x1, x2⟩ := found_cells HK.out; replace HB := Aside0.mk (HB.out.trans (hb.mono HB.out.size)); clear hb; have hka := blk_alloc HK.out (.cells #[  .int .u64 m, .bool true, .slice A4 L.length c4] 25); obtain ⟨z0, z1, z2⟩ := found_cells hka; have HBG := Aside0.mk (HB.out.alloc HB.out.size (.cells #[  .int .u64 m, .bool true, .slice A4 L.length c4] 25))))
            | (go_at_call 11; go_must (refine (check_any m true A4 L.length c4 L A ms.length c ms _ (Kd.C_below HR4.out HBG.out) (Kd.C_below HR.out HBG.out) HO.out HWF.out.2.1 HWF.out.2.2).mono ?_; rintro e w3 ⟨rfl, hb⟩; rw [hq]; have HBE := Aside0.mk (HBG.out.trans (hb.mono HBG.out.size)); clear hb)))
          go_ret
          exact ⟨rfl, HBE.out⟩
      · have hq : standB o true L ms = false := stand_lies hs (fun h => hom h.1)
        go_enter Try.func5, Try.ntmps5
        go_wp2_with (first
          | (go_at_call 10; go_must (refine (awake_any _).mono ?_; rintro e w1 ⟨rfl, hb⟩; have HK := Aside0.mk (show w1.heap[w.heap.size]? = some (foundObj m ok (.slice A4 L.length c4)) from (hb.block _ (by simp; try omega)).trans (blk_new w _)); have HB := Aside0.mk (one_new hb); (try clear x0 x1 x2); obtain ⟨x0, x1, x2⟩ := found_cells HK.out; clear hb))
          | (go_at_call 11; (with_reducible refine (check_any m ok A4 L.length c4 L A ms.length c ms _ (Kd.C_below HR4.out HB.out) (Kd.C_below HR.out HB.out) HWF.out.1 HWF.out.2.1 HWF.out.2.2).mono ?_); go_must (rintro e w2 ⟨rfl, hb⟩; rw [hs]; replace HK := Aside0.mk ((hb.block _ (blk_lt HK.out)).trans HK.out); (try clear x0 x1 x2); obtain ⟨x0, x1, x2⟩ := found_cells HK.out; replace HB := Aside0.mk (HB.out.trans (hb.mono HB.out.size)); clear hb; have hka := blk_alloc HK.out (.cells #[.int .u64 o, .bool true, .slice A4 L.length c4] 25); obtain ⟨z0, z1, z2⟩ := found_cells hka; have HBG := Aside0.mk (HB.out.alloc HB.out.size (.cells #[.int .u64 o, .bool true, .slice A4 L.length c4] 25))))
          | (go_at_call 11; go_must (refine (check_any o true A4 L.length c4 L A ms.length c ms _ (Kd.C_below HR4.out HBG.out) (Kd.C_below HR.out HBG.out) HO.out HWF.out.2.1 HWF.out.2.2).mono ?_; rintro e w3 ⟨rfl, hb⟩; rw [hq]; have HBE := Aside0.mk (HBG.out.trans (hb.mono HBG.out.size)); clear hb)))
        go_ret
        exact ⟨rfl, HBE.out⟩
    | false =>
      by_cases hom : 0 = m
      · have hbe : ((0 : Int) == m) = true := beq_iff_eq.2 hom
        have HOM := Aside0.mk hom
        clear hom
        cases ok with
        | true =>
          have hq : standB 0 false L ms = false := stand_lies hs (fun h => absurd h.2 (by decide))
          go_enter Try.func5, Try.ntmps5
          go_wp2_with (first
            | (go_at_call 10; go_must (refine (awake_any _).mono ?_; rintro e w1 ⟨rfl, hb⟩; have HK := Aside0.mk (show w1.heap[w.heap.size]? = some (foundObj m true (.slice A4 L.length c4)) from (hb.block _ (by simp; try omega)).trans (blk_new w _)); have HB := Aside0.mk (one_new hb); (try clear x0 x1 x2); obtain ⟨x0, x1, x2⟩ := found_cells HK.out; clear hb))
            | (go_at_call 11; (with_reducible refine (check_any m true A4 L.length c4 L A ms.length c ms _ (Kd.C_below HR4.out HB.out) (Kd.C_below HR.out HB.out) HWF.out.1 HWF.out.2.1 HWF.out.2.2).mono ?_); go_must (rintro e w2 ⟨rfl, hb⟩; rw [hs]; replace HK := Aside0.mk ((hb.block _ (blk_lt HK.out)).trans HK.out); (try clear x0 x1 x2); obtain ⟨x0, x1, x2⟩ := found_cells HK.out; replace HB := Aside0.mk (HB.out.trans (hb.mono HB.out.size)); clear hb; have hka := blk_alloc HK.out (.cells #[.int .u64 0, .bool false, .slice A4 L.length c4] 25); obtain ⟨z0, z1, z2⟩ := found_cells hka; have HBG := Aside0.mk (HB.out.alloc HB.out.size (.cells #[.int .u64 0, .bool false, .slice A4 L.length c4] 25)); clear hka))
            | (go_at_call 11; go_must (refine (check_any 0 false A4 L.length c4 L A ms.length c ms _ (Kd.C_below HR4.out HBG.out) (Kd.C_below HR.out HBG.out) (by decide +kernel) HWF.out.2.1 HWF.out.2.2).mono ?_; rintro e w3 ⟨rfl, hb⟩; rw [hq]; have HBE := Aside0.mk (HBG.out.trans (hb.mono HBG.out.size)); clear hb)))
          go_ret
          exact ⟨rfl, HBE.out⟩
        | false =>
          have hq : standB 0 false L ms = true := by rw [HOM.out]; exact hs
          go_enter Try.func5, Try.ntmps5
          go_wp2_with (first
            | (go_at_call 10; go_must (refine (awake_any _).mono ?_; rintro e w1 ⟨rfl, hb⟩; have HK := Aside0.mk (show w1.heap[w.heap.size]? = some (foundObj m false (.slice A4 L.length c4)) from (hb.block _ (by simp; try omega)).trans (blk_new w _)); have HB := Aside0.mk (one_new hb); (try clear x0 x1 x2); obtain ⟨x0, x1, x2⟩ := found_cells HK.out; clear hb))
            | (go_at_call 11; (with_reducible refine (check_any m false A4 L.length c4 L A ms.length c ms _ (Kd.C_below HR4.out HB.out) (Kd.C_below HR.out HB.out) HWF.out.1 HWF.out.2.1 HWF.out.2.2).mono ?_); go_must (rintro e w2 ⟨rfl, hb⟩; rw [hs]; replace HK := Aside0.mk ((hb.block _ (blk_lt HK.out)).trans HK.out); (try clear x0 x1 x2); obtain ⟨x0, x1, x2⟩ := found_cells HK.out; replace HB := Aside0.mk (HB.out.trans (hb.mono HB.out.size)); clear hb; have hka := blk_alloc HK.out (.cells #[.int .u64 0, .bool false, .slice A4 L.length c4] 25); obtain ⟨z0, z1, z2⟩ := found_cells hka; have HBG := Aside0.mk (HB.out.alloc HB.out.size (.cells #[.int .u64 0, .bool false, .slice A4 L.length c4] 25)); clear hka))
            | (go_at_call 11; go_must (refine (check_any 0 false A4 L.length c4 L A ms.length c ms _ (Kd.C_below HR4.out HBG.out) (Kd.C_below HR.out HBG.out) (by decide +kernel) HWF.out.2.1 HWF.out.2.2).mono ?_; rintro e w3 ⟨rfl, hb⟩; rw [hq]; have HBE := Aside0.mk (HBG.out.trans (hb.mono HBG.out.size)); clear hb)))
          go_ret
          exact ⟨rfl, HBE.out⟩
      · have hq : standB 0 false L ms = false := stand_lies hs (fun h => hom h.1)
        go_enter Try.func5, Try.ntmps5
        go_wp2_with (first
          | (go_at_call 10; go_must (refine (awake_any _).mono ?_; rintro e w1 ⟨rfl, hb⟩; have HK := Aside0.mk (show w1.heap[w.heap.size]? = some (foundObj m ok (.slice A4 L.length c4)) from (hb.block _ (by simp; try omega)).trans (blk_new w _)); have HB := Aside0.mk (one_new hb); (try clear x0 x1 x2); obtain ⟨x0, x1, x2⟩ := found_cells HK.out; clear hb))
          | (go_at_call 11; (with_reducible refine (check_any m ok A4 L.length c4 L A ms.length c ms _ (Kd.C_below HR4.out HB.out) (Kd.C_below HR.out HB.out) HWF.out.1 HWF.out.2.1 HWF.out.2.2).mono ?_); go_must (rintro e w2 ⟨rfl, hb⟩; rw [hs]; replace HK := Aside0.mk ((hb.block _ (blk_lt HK.out)).trans HK.out); (try clear x0 x1 x2); obtain ⟨x0, x1, x2⟩ := found_cells HK.out; replace HB := Aside0.mk (HB.out.trans (hb.mono HB.out.size)); clear hb; have hka := blk_alloc HK.out (.cells #[.int .u64 0, .bool false, .slice A4 L.length c4] 25); obtain ⟨z0, z1, z2⟩ := found_cells hka; have HBG := Aside0.mk (HB.out.alloc HB.out.size (.cells #[.int .u64 0, .bool false, .slice A4 L.length c4] 25)); clear hka))
          | (go_at_call 11; go_must (refine (check_any 0 false A4 L.length c4 L A ms.length c ms _ (Kd.C_below HR4.out HBG.out) (Kd.C_below HR.out HBG.out) (by decide +kernel) HWF.out.2.1 HWF.out.2.2).mono ?_; rintro e w3 ⟨rfl, hb⟩; rw [hq]; have HBE := Aside0.mk (HBG.out.trans (hb.mono HBG.out.size)); clear hb)))
        go_ret
        exact ⟨rfl, HBE.out⟩
end Go.Proofs.Ytoojmbifkjocfaa.Proof
