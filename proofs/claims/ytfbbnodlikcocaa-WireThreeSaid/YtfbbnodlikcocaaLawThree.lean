/- WireThree answers true for every three rows of bytes. No conditions. -/
import Derived.Test.YtfbbnodlikcocaaWire
namespace Go.Proofs.Ytfbbnodlikcocaa.LawThree
open Go.RowKit Go.Proofs.YtfbbnodlikcocaaW.PrintWords Go.Proofs.YtfbbnodlikcocaaW.PrintLast Go.Proofs.YtfbbnodlikcocaaW.PrintMore Go.Proofs.Ytfbbnodlikcocaa.Kit Go.Proofs.Ytfbbnodlikcocaa.Plain Go.Proofs.Ytfbbnodlikcocaa.Wire
set_option linter.unusedVariables false
set_option linter.unusedSimpArgs false
attribute [local go_sem] max2_int min2_int max_two min_two max_three min_three

set_option maxHeartbeats 800000 in
set_option maxRecDepth 100000 in
theorem three_any (A0 : Option Addr) (m0 c0 : Nat) (a : List Int) (A1 : Option Addr) (m1 c1 : Nat) (b : List Int) (A2 : Option Addr) (m2 c2 : Nat) (c : List Int) (w : World)
    (hr0 : RdN w A0 m0 a) (hr1 : RdN w A1 m1 b) (hr2 : RdN w A2 m2 c) (ha : Byt a) (hb : Byt b) (hc : Byt c) :
    Calls Try.prog 4 #[.slice A0 m0 c0, .slice A1 m1 c1, .slice A2 m2 c2] w fun e w' => e = .returned (.bool true) ∧ Below w.heap.size w w' := by
  have HB := Aside0.mk (Below.refl w.heap.size w)
  have hmax0 := C_max hr0
  have hmax1 := C_max hr1
  have hmax2 := C_max hr2
  have HR0 := Aside0.mk hr0
  have HR1 := Aside0.mk hr1
  have HR2 := Aside0.mk hr2
  have HL0 := Aside0.mk (C_len hr0)
  have HL1 := Aside0.mk (C_len hr1)
  have HL2 := Aside0.mk (C_len hr2)
  clear hr0 hr1 hr2
  by_cases h0 : 100 < m0
  · go_enter Try.func4, Try.ntmps4
    go_wp2_with (go_at_call 11; refine (awake_any _).mono ?_; rintro e w1 ⟨rfl, hb⟩; clear HB; have HB := Aside0.mk hb; clear hb)
    go_ret
    exact ⟨rfl, HB.out⟩
  by_cases h1 : 100 < m1
  · go_enter Try.func4, Try.ntmps4
    go_wp2_with (go_at_call 11; refine (awake_any _).mono ?_; rintro e w1 ⟨rfl, hb⟩; clear HB; have HB := Aside0.mk hb; clear hb)
    go_ret
    exact ⟨rfl, HB.out⟩
  by_cases h2 : 100 < m2
  · go_enter Try.func4, Try.ntmps4
    go_wp2_with (go_at_call 11; refine (awake_any _).mono ?_; rintro e w1 ⟨rfl, hb⟩; clear HB; have HB := Aside0.mk hb; clear hb)
    go_ret
    exact ⟨rfl, HB.out⟩
  have HE1 := Aside0.mk (xorS_assoc ha hb hc)
  have HE2 : Aside0 (xorS (xorS a b) c = xorS (xorS c a) b) := ⟨by rw [xorS_assoc hc ha hb, xorS_comm hc (ha.xorS hb)]⟩
  have HE3 : Aside0 ((xorS (xorS a b) c).length = min m0 (min m1 m2)) := ⟨by rw [xorS_len, xorS_len, HL0.out, HL1.out, HL2.out]; omega⟩
  have g0 : decide (100 < (m0 : Int)) = false := decide_eq_false (by omega)
  have g1 : decide (100 < (m1 : Int)) = false := decide_eq_false (by omega)
  have g2 : decide (100 < (m2 : Int)) = false := decide_eq_false (by omega)
  have HX1 := Aside0.mk (show (xorS a b).length ≤ 100 by rw [xorS_len, HL0.out, HL1.out]; omega)
  have HX2 := Aside0.mk (show (xorS b c).length ≤ 100 by rw [xorS_len, HL1.out, HL2.out]; omega)
  have HX3 := Aside0.mk (show (xorS c a).length ≤ 100 by rw [xorS_len, HL0.out, HL2.out]; omega)
  clear ha hb hc
  go_enter Try.func4, Try.ntmps4
  go_wp2_with (first
    | (go_at_call 11; refine (awake_any _).mono ?_; rintro e w1 ⟨rfl, hb⟩; clear HB; have HB := Aside0.mk hb; clear hb)
    | (go_at_call 12; first | ((with_reducible refine (xor_any A0 m0 _ _ A1 m1 _ _ _ (Kd.C_below HR0.out HB.out) (Kd.C_below HR1.out HB.out) (by omega) (by omega)).mono ?_); rintro e wx ⟨vx, rfl, ho, hb⟩; obtain ⟨Ax, cx, rfl, hcapx, hrx⟩ := Ow_slice ho; have HRx := Aside0.mk hrx; replace HB := Aside0.mk (HB.out.trans (hb.mono HB.out.size)); clear ho hb hrx) | ((with_reducible refine (xor_any Ax _ _ _ A2 m2 _ _ _ HRx.out (Kd.C_below HR2.out HB.out) (by have := HX1.out; omega) (by omega)).mono ?_); rintro e wy ⟨vy, rfl, ho, hb⟩; obtain ⟨Ay, cy, rfl, hcapy, hry⟩ := Ow_slice ho; have HRy := Aside0.mk hry; replace HB := Aside0.mk (HB.out.trans (hb.mono HB.out.size)); clear ho hb hry) | ((with_reducible refine (xor_any A1 m1 _ _ A2 m2 _ _ _ (Kd.C_below HR1.out HB.out) (Kd.C_below HR2.out HB.out) (by omega) (by omega)).mono ?_); rintro e wz ⟨vz, rfl, ho, hb⟩; obtain ⟨Az, cz, rfl, hcapz, hrz⟩ := Ow_slice ho; have HRz := Aside0.mk hrz; replace HRy := Aside0.mk (Kd.C_below HRy.out hb); replace HB := Aside0.mk (HB.out.trans (hb.mono HB.out.size)); clear ho hb hrz) | ((with_reducible refine (xor_any A0 m0 _ _ Az _ _ _ _ (Kd.C_below HR0.out HB.out) HRz.out (by omega) (by have := HX2.out; omega)).mono ?_); rintro e wu ⟨vu, rfl, ho, hb⟩; obtain ⟨Au, cu, rfl, hcapu, hru⟩ := Ow_slice ho; have HRu := Aside0.mk hru; replace HRy := Aside0.mk (Kd.C_below HRy.out hb); replace HB := Aside0.mk (HB.out.trans (hb.mono HB.out.size)); clear ho hb hru) | ((with_reducible refine (xor_any A2 m2 _ _ A0 m0 _ _ _ (Kd.C_below HR2.out HB.out) (Kd.C_below HR0.out HB.out) (by omega) (by omega)).mono ?_); rintro e wp ⟨vp, rfl, ho, hb⟩; obtain ⟨Ap, cp, rfl, hcapp, hrp⟩ := Ow_slice ho; have HRp := Aside0.mk hrp; replace HRy := Aside0.mk (Kd.C_below HRy.out hb); replace HB := Aside0.mk (HB.out.trans (hb.mono HB.out.size)); clear ho hb hrp) | ((with_reducible refine (xor_any Ap _ _ _ A1 m1 _ _ _ HRp.out (Kd.C_below HR1.out HB.out) (by have := HX3.out; omega) (by omega)).mono ?_); rintro e wq ⟨vq, rfl, ho, hb⟩; obtain ⟨Aq, cq, rfl, hcapq, hrq⟩ := Ow_slice ho; have HRq := Aside0.mk hrq; replace HRy := Aside0.mk (Kd.C_below HRy.out hb); replace HB := Aside0.mk (HB.out.trans (hb.mono HB.out.size)); clear ho hb hrq))
    | (go_at_call 13; first | ((with_reducible refine (same_yes _ _ _ _ _ _ _ _ _ HRy.out HRq.out HE2.out).mono ?_); rintro e wr ⟨rfl, hd⟩; have hb := hd.below; replace HB := Aside0.mk (drawn_below HB.out hd); clear hd hb) | ((with_reducible refine (same_yes _ _ _ _ _ _ _ _ _ HRy.out HRu.out HE1.out).mono ?_); rintro e wr ⟨rfl, hd⟩; have hb := hd.below; replace HRy := Aside0.mk (Kd.C_below HRy.out hb); replace HB := Aside0.mk (drawn_below HB.out hd); clear hd hb)))
  all_goals
    go_ret
    exact ⟨retB (beq_iff_eq.mpr (by rw [HE3.out]; omega)), HB.out⟩
end Go.Proofs.Ytfbbnodlikcocaa.LawThree
