/- ProofMore answers true for everything found, all moments and whichever is looked at more. No conditions. -/
import Derived.Test.YtoojmbifkjocfaaMoreA
import Derived.Test.YtoojmbifkjocfaaMoreB
import Derived.Test.YtoojmbifkjocfaaMoreC
namespace Go.Proofs.Ytoojmbifkjocfaa.Proof
open Go.RowKit Go.Proofs.YtoojmbifkjocfaaW.PrintWords Go.Proofs.YtoojmbifkjocfaaW.PrintLast Go.Proofs.YtoojmbifkjocfaaW.PrintMore Go.Proofs.Ytoojmbifkjocfaa.Kit Go.Proofs.Ytoojmbifkjocfaa.Plain
set_option linter.unusedVariables false
set_option linter.unusedSimpArgs false
set_option maxHeartbeats 3200000 in
set_option maxRecDepth 100000 in
theorem pmore_any (cs : Array Value) (y : Int × Bool × List (Int × Bool)) (A : Option Addr) (n c : Nat) (ms : List Int) (wh : Int) (w : World) (hy : FdK.K w y cs.toList) (hr : RdM w A n ms)
    (hm : (Lit.int .u64 y.1).wf = true) (hL : ∀ p ∈ y.2.2, (Lit.int .u64 p.1).wf = true) (hms : ∀ x ∈ ms, (Lit.int .u64 x).wf = true) (hw0 : 0 ≤ wh) (hw1 : wh < 256) :
    Calls Try.prog 4 #[.agg cs, .slice A n c, .int .u8 wh] w fun e w' => e = .returned (.bool true) ∧ Below w.heap.size w w' := by
  obtain ⟨m, ok, L⟩ := y
  obtain ⟨A4, c4, rfl, hc4, hr4⟩ := found_open hy
  simp only at hc4 hr4 hm hL
  obtain rfl := C_len hr
  have HWF := Aside0.mk (And.intro hm (And.intro hL hms))
  have hmx := C_max hr
  have hmx4 := C_max hr4
  have HR := Aside0.mk hr
  have HR4 := Aside0.mk hr4
  clear hy hr hr4 hm hL hms
  by_cases h0 : 40 < L.length
  · have g0 : decide (40 < (L.length : Int)) = true := decide_eq_true (by omega)
    go_enter Try.func4, Try.ntmps4
    go_wp2_with (go_at_call 10; go_must (refine (awake_any _).mono ?_; rintro e w1 ⟨rfl, hb⟩; have HK := Aside0.mk (show w1.heap[w.heap.size]? = some (foundObj m ok (.slice A4 L.length c4)) from (hb.block _ (by simp; try omega)).trans (blk_new w _)); have HB := Aside0.mk (one_new hb); (try clear x0 x1 x2); obtain ⟨x0, x1, x2⟩ := found_cells HK.out; clear hb))
    go_ret
    exact ⟨rfl, HB.out⟩
  have g0 : decide (40 < (L.length : Int)) = false := decide_eq_false (by omega)
  by_cases h1 : 40 < ms.length
  · have g1 : decide (40 < (ms.length : Int)) = true := decide_eq_true (by omega)
    go_enter Try.func4, Try.ntmps4
    go_wp2_with (go_at_call 10; go_must (refine (awake_any _).mono ?_; rintro e w1 ⟨rfl, hb⟩; have HK := Aside0.mk (show w1.heap[w.heap.size]? = some (foundObj m ok (.slice A4 L.length c4)) from (hb.block _ (by simp; try omega)).trans (blk_new w _)); have HB := Aside0.mk (one_new hb); (try clear x0 x1 x2); obtain ⟨x0, x1, x2⟩ := found_cells HK.out; clear hb))
    go_ret
    exact ⟨rfl, HB.out⟩
  have g1 : decide (40 < (ms.length : Int)) = false := decide_eq_false (by omega)
  by_cases h2 : ms.length = 0
  · have g2 : ((ms.length : Int) == 0) = true := beq_iff_eq.2 (by omega)
    go_enter Try.func4, Try.ntmps4
    go_wp2_with (go_at_call 10; go_must (refine (awake_any _).mono ?_; rintro e w1 ⟨rfl, hb⟩; have HK := Aside0.mk (show w1.heap[w.heap.size]? = some (foundObj m ok (.slice A4 L.length c4)) from (hb.block _ (by simp; try omega)).trans (blk_new w _)); have HB := Aside0.mk (one_new hb); (try clear x0 x1 x2); obtain ⟨x0, x1, x2⟩ := found_cells HK.out; clear hb))
    go_ret
    exact ⟨rfl, HB.out⟩
  have g2 : ((ms.length : Int) == 0) = false := beq_eq_false_iff_ne.2 (by omega)
  cases hs : standB m ok L ms with
  | false =>
    go_enter Try.func4, Try.ntmps4
    go_wp2_with (first
      | (go_at_call 10; go_must (refine (awake_any _).mono ?_; rintro e w1 ⟨rfl, hb⟩; have HK := Aside0.mk (show w1.heap[w.heap.size]? = some (foundObj m ok (.slice A4 L.length c4)) from (hb.block _ (by simp; try omega)).trans (blk_new w _)); have HB := Aside0.mk (one_new hb); (try clear x0 x1 x2); obtain ⟨x0, x1, x2⟩ := found_cells HK.out; clear hb))
      | (go_at_call 11; (with_reducible refine (check_any m ok A4 L.length c4 L A ms.length c ms _ (Kd.C_below HR4.out HB.out) (Kd.C_below HR.out HB.out) HWF.out.1 HWF.out.2.1 HWF.out.2.2).mono ?_); go_must (rintro e w2 ⟨rfl, hb⟩; rw [hs]; replace HK := Aside0.mk ((hb.block _ (blk_lt HK.out)).trans HK.out); (try clear x0 x1 x2); obtain ⟨x0, x1, x2⟩ := found_cells HK.out; replace HB := Aside0.mk (HB.out.trans (hb.mono HB.out.size)); clear hb)))
    go_ret
    exact ⟨rfl, HB.out⟩
  | true =>
    obtain ⟨q, hq⟩ : ∃ q : Nat, (q : Int) = wh % (ms.length : Int) := by
      have h3 := Int.emod_nonneg wh (show (ms.length : Int) ≠ 0 by omega)
      exact ⟨(wh % (ms.length : Int)).toNat, by omega⟩
    have hql : q < ms.length := by have := Int.emod_lt_of_pos wh (show (0 : Int) < ms.length by omega); omega
    cases ok with
    | false => exact pmore_a m A4 c4 L A c ms wh q w HR4.out HR.out HWF.out.1 HWF.out.2.1 HWF.out.2.2 h0 h1 h2 hs hq hql hw0 hw1
    | true =>
      by_cases hlt : m < nth ms q
      · exact pmore_b m A4 c4 L A c ms wh q w HR4.out HR.out HWF.out.1 HWF.out.2.1 HWF.out.2.2 h0 h1 h2 hs hq hql hw0 hw1 hlt
      · exact pmore_c m A4 c4 L A c ms wh q w HR4.out HR.out HWF.out.1 HWF.out.2.1 HWF.out.2.2 h0 h1 h2 hs hq hql hw0 hw1 hlt
end Go.Proofs.Ytoojmbifkjocfaa.Proof
