/- WireNumbers answers true for every number, count and row of bytes (what the law does at any such input). No conditions. -/
import Derived.Test.YtfbbnodlikcocaaWire
namespace Go.Proofs.Ytfbbnodlikcocaa.LawNumbers
open Go.RowKit Go.Proofs.YtfbbnodlikcocaaW.PrintWords Go.Proofs.YtfbbnodlikcocaaW.PrintLast Go.Proofs.YtfbbnodlikcocaaW.PrintMore Go.Proofs.Ytfbbnodlikcocaa.Kit Go.Proofs.Ytfbbnodlikcocaa.Plain Go.Proofs.Ytfbbnodlikcocaa.Wire
set_option linter.unusedVariables false
set_option linter.unusedSimpArgs false

set_option maxHeartbeats 800000 in
set_option maxRecDepth 100000 in
theorem numbers_any (n s : Int) (A : Option Addr) (m c : Nat) (l : List Int) (w : World) (hr : RdN w A m l) (hy : Byt l) (hn : 0 ≤ n) (hn64 : n < 2 ^ 64) :
    Calls Try.prog 5 #[.int .u64 n, .int .i64 s, .slice A m c] w fun e w' => e = .returned (.bool true) ∧ Below w.heap.size w w' := by
  have HB := Aside0.mk (Below.refl w.heap.size w)
  have hmax := C_max hr
  have HR := Aside0.mk hr
  have HN := Aside0.mk hn64
  clear hr hn64
  by_cases hm : 100 < m
  · go_enter Try.func5, Try.ntmps5
    go_wp2_with (go_at_call 11; refine (awake_any _).mono ?_; rintro e w1 ⟨rfl, hb⟩; clear HB; have HB := Aside0.mk hb; clear hb)
    go_ret
    exact ⟨rfl, HB.out⟩
  · have e1 : ((getS l).1 == (getS l).1) = true := by simp
    have e2 : ((getS l).2 == (getS l).2) = true := by simp
    go_enter Try.func5, Try.ntmps5
    go_wp2_with (first
      | (go_at_call 11; refine (awake_any _).mono ?_; rintro e w1 ⟨rfl, hb⟩; clear HB; have HB := Aside0.mk hb; clear hb)
      | (go_at_call 15; refine (get_any _ _ _ _ _ (Kd.C_below HR.out HB.out) hy).mono ?_; rintro e w2 ⟨rfl, rfl⟩)
      | (go_at_call 16; refine (refget_any _ _ _ _ _ (Kd.C_below HR.out HB.out) hy).mono ?_; rintro e w3 ⟨rfl, rfl⟩)
      | (go_at_call 17; refine (put_any _ _ _).mono ?_; rintro e w4 ⟨v4, rfl, ho, hb⟩; obtain ⟨A4, c4, rfl, _, hr4⟩ := Ow_slice ho; have HR4 := Aside0.mk hr4; replace HB := Aside0.mk (HB.out.trans (hb.mono HB.out.size)); clear ho hb hr4)
      | (go_at_call 18; refine (refput_any _ _ _ hn HN.out).mono ?_; rintro e w5 ⟨v5, rfl, ho, hb⟩; obtain ⟨A5, c5, rfl, _, hr5⟩ := Ow_slice ho; have HR5 := Aside0.mk hr5; replace HR4 := Aside0.mk (Kd.C_below HR4.out hb); replace HB := Aside0.mk (HB.out.trans (hb.mono HB.out.size)); clear ho hb hr5)
      | (go_at_call 13; refine (same_any _ _ _ _ _ _ _ _ _ HR4.out HR5.out).mono ?_; rintro e w6 ⟨rfl, hd⟩; replace HB := Aside0.mk (drawn_below HB.out hd); clear hd))
    go_ret
    exact ⟨rfl, HB.out⟩
end Go.Proofs.Ytfbbnodlikcocaa.LawNumbers
