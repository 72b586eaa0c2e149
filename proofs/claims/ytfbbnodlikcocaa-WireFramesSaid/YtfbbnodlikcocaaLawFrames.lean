/- WireFrames answers true for every list of parts and every row of bytes. No conditions. -/
import Derived.Test.YtfbbnodlikcocaaWireRef
namespace Go.Proofs.Ytfbbnodlikcocaa.LawFrames
open Go.RowKit Go.Proofs.YtfbbnodlikcocaaW.PrintWords Go.Proofs.YtfbbnodlikcocaaW.PrintLast Go.Proofs.YtfbbnodlikcocaaW.PrintMore Go.Proofs.Ytfbbnodlikcocaa.Kit Go.Proofs.Ytfbbnodlikcocaa.Plain Go.Proofs.Ytfbbnodlikcocaa.Wire
set_option linter.unusedVariables false
set_option linter.unusedSimpArgs false

/-- Of rows of the call's own: the slice, and how it is read. -/
theorem OwR_slice {w : World} {base : Nat} {v : Value} {l : List (List Int)} (h : Kd.R Rw 22 w base (fun _ => True) v l) : ∃ A c, v = .slice A l.length c ∧ l.length ≤ c ∧ Kd.C Rw w A l.length l := by
  obtain ⟨A, c, rfl⟩ := Kd.R_slice h
  obtain ⟨_, h2, h3⟩ := Kd.R_reads' h
  exact ⟨A, c, rfl, h2, h3⟩
set_option maxHeartbeats 1600000 in
set_option maxRecDepth 100000 in
theorem frames_any (A0 : Option Addr) (m0 c0 : Nat) (l : List (List Int)) (A1 : Option Addr) (m1 c1 : Nat) (b : List Int) (w : World)
    (hr0 : Kd.C Rw w A0 m0 l) (hr1 : RdN w A1 m1 b) (hc1 : m1 ≤ c1) (hl : ∀ p ∈ l, Byt p) (hb : Byt b) :
    Calls Try.prog 8 #[.slice A0 m0 c0, .slice A1 m1 c1] w fun e w' => e = .returned (.bool true) ∧ Below w.heap.size w w' := by
  obtain rfl := C_len hr0
  have HB := Aside0.mk (Below.refl w.heap.size w)
  have hmax0 := C_max hr0
  have hmax1 := C_max hr1
  have HR0 := Aside0.mk hr0
  have HR1 := Aside0.mk hr1
  have HY := Aside0.mk (And.intro hl hb)
  clear hr0 hr1 hl hb
  by_cases h0 : 10 < l.length
  · go_enter Try.func8, Try.ntmps8
    go_wp2_with (go_at_call 11; refine (awake_any _).mono ?_; rintro e w1 ⟨rfl, hb⟩; clear HB; have HB := Aside0.mk hb; clear hb)
    go_ret
    exact ⟨rfl, HB.out⟩
  by_cases h1 : 300 < m1
  · go_enter Try.func8, Try.ntmps8
    go_wp2_with (go_at_call 11; refine (awake_any _).mono ?_; rintro e w1 ⟨rfl, hb⟩; clear HB; have HB := Aside0.mk hb; clear hb)
    go_ret
    exact ⟨rfl, HB.out⟩
  have g0 : decide (10 < (l.length : Int)) = false := decide_eq_false (by omega)
  have g1 : decide (300 < (m1 : Int)) = false := decide_eq_false (by omega)
  go_enter Try.func8, Try.ntmps8
  go_wp2_with (go_at_call 11; refine (awake_any _).mono ?_; rintro e w1 ⟨rfl, hb⟩; clear HB; have HB := Aside0.mk hb; clear hb)
  obtain ⟨wa, rfl⟩ : ∃ wa : World, wa = w1 := ⟨_, rfl⟩
  go_loopg [5] l.length (fun gk v w' => ∃ i : Nat, v = .int .i64 i ∧ i + gk = l.length ∧ Aside0 (∀ j, j < i → (nthR l j).length ≤ 300) ∧ wa = w')
  case atStart => exact ⟨0, rfl, by omega, ⟨fun j hj => by omega⟩, rfl⟩
  case round =>
    obtain ⟨i, rfl, hi, HI, rfl⟩ := hrel
    by_cases hlt : i < l.length
    · obtain ⟨ad, B, bc, rfl, hcw, hbc, hrb⟩ := C_row HR0.out i hlt
      have hc := pw_cell_below HB.out hcw
      clear hcw hbc hrb
      obtain ⟨p, hp⟩ : ∃ p, p = nthR l i := ⟨_, rfl⟩
      rw [← hp] at hc
      by_cases h3 : 300 < p.length
      · clear hp
        go_wp2
        go_ret
        exact ⟨rfl, HB.out⟩
      · have HI2 : Aside0 (∀ j, j < i + 1 → (nthR l j).length ≤ 300) := ⟨fun j hj => by
          rcases Nat.lt_or_ge j i with h | h
          · exact HI.out j h
          · obtain rfl : j = i := by omega
            rw [← hp]; omega⟩
        clear hp
        go_wp2
        go_roundg (gk - 1)
        case measure => omega
        case rel => exact ⟨i + 1, rfl, by omega, HI2, rfl⟩
    · obtain rfl : l.length = i := by omega
      have hall : ∀ p ∈ l, p.length ≤ 300 := fun p hp => by
        obtain ⟨j, hj, rfl⟩ := List.getElem_of_mem hp
        rw [← nthR_eq hj]
        exact HI.out j hj
      have hal2 : ∀ p ∈ l, p.length ≤ 65535 := fun p hp => by have := hall p hp; omega
      have hfl := frm_len hall
      have hfl2 : (frm l).length ≤ 3020 := by
        have : l.length * (300 + 2) ≤ 10 * 302 := Nat.mul_le_mul (by omega) (Nat.le_refl _)
        omega
      have HF := Aside0.mk (And.intro hal2 (And.intro hfl2 (partsS_frm hal2)))
      have f1 : ((partsS b).2 != (partsS b).2) = false := by simp
      clear hall hal2 hfl hfl2
      go_wp2_with (first
        | (go_at_call 19; refine (frame_yes _ _ _ l _ (Kd.C_below HR0.out HB.out) HF.out.1 (by omega)).mono ?_; rintro e w2 ⟨v2, rfl, ho, hb⟩; obtain ⟨A2, c2, rfl, hcap2, hr2⟩ := Ow_slice ho; have HR2 := Aside0.mk hr2; have HC2 := Aside0.mk hcap2; replace HB := Aside0.mk (HB.out.trans (hb.mono HB.out.size)); clear ho hb hr2 hcap2)
        | (go_at_call 20; refine (refframe_yes _ _ _ l _ (Kd.C_below HR0.out HB.out) HF.out.1 (by omega)).mono ?_; rintro e w3 ⟨v3, rfl, ho, hb⟩; obtain ⟨A3, c3, rfl, hcap3, hr3⟩ := Ow_slice ho; have HR3 := Aside0.mk hr3; replace HR2 := Aside0.mk (Kd.C_below HR2.out hb); replace HB := Aside0.mk (HB.out.trans (hb.mono HB.out.size)); clear ho hb hr3 hcap3)
        | (go_at_call 21; first
           | ((with_reducible refine (parts_any A1 m1 c1 b _ (Kd.C_below HR1.out HB.out) hc1 HY.out.2 (by omega)).mono ?_); rintro e w4 ⟨v4, rfl, ho, hb⟩; obtain ⟨A4, c4, rfl, hcap4, hr4⟩ := OwR_slice ho; have HR4 := Aside0.mk hr4; replace HR2 := Aside0.mk (Kd.C_below HR2.out hb); replace HR3 := Aside0.mk (Kd.C_below HR3.out hb); replace HB := Aside0.mk (HB.out.trans (hb.mono HB.out.size)); clear ho hb hr4 hcap4)
           | ((with_reducible refine (parts_any A2 _ c2 _ _ HR2.out HC2.out (Byt.frm HY.out.1) (by have := HF.out.2.1; omega)).mono ?_); rintro e w6 ⟨v6, rfl, ho, hb⟩; rw [HF.out.2.2] at ho ⊢; obtain ⟨A6, c6, rfl, hcap6, hr6⟩ := OwR_slice ho; have HR6 := Aside0.mk hr6; replace HB := Aside0.mk (HB.out.trans (hb.mono HB.out.size)); clear ho hb hr6 hcap6))
        | (go_at_call 22; refine (refparts_any A1 m1 c1 b _ (Kd.C_below HR1.out HB.out) hc1 HY.out.2 (by omega)).mono ?_; rintro e w5 ⟨v5, rfl, ho, hb⟩; obtain ⟨A5, c5, rfl, hcap5, hr5⟩ := OwR_slice ho; have HR5 := Aside0.mk hr5; replace HR2 := Aside0.mk (Kd.C_below HR2.out hb); replace HR3 := Aside0.mk (Kd.C_below HR3.out hb); replace HR4 := Aside0.mk (Kd.C_below HR4.out hb); replace HB := Aside0.mk (HB.out.trans (hb.mono HB.out.size)); clear ho hb hr5 hcap5)
        | (go_at_call 13; refine (same_yes _ _ _ _ _ _ _ _ _ HR2.out HR3.out rfl).mono ?_; rintro e w7 ⟨rfl, hd⟩; have hb := hd.below; replace HR2 := Aside0.mk (Kd.C_below HR2.out hb); replace HR4 := Aside0.mk (Kd.C_below HR4.out hb); replace HR5 := Aside0.mk (Kd.C_below HR5.out hb); replace HB := Aside0.mk (drawn_below HB.out hd); clear hd hb)
        | (go_at_call 23; first
           | ((with_reducible refine (rows_yes _ _ _ _ _ _ _ _ _ HR4.out HR5.out rfl).mono ?_); rintro e w8 ⟨rfl, hb⟩; replace HR2 := Aside0.mk (Kd.C_below HR2.out hb); replace HB := Aside0.mk (HB.out.trans (hb.mono HB.out.size)); clear hb)
           | ((with_reducible refine (rows_yes _ _ _ _ _ _ _ _ _ HR6.out (Kd.C_below HR0.out HB.out) rfl).mono ?_); rintro e w9 ⟨rfl, hb⟩; replace HB := Aside0.mk (HB.out.trans (hb.mono HB.out.size)); clear hb)))
      go_ret
      exact ⟨rfl, HB.out⟩
end Go.Proofs.Ytfbbnodlikcocaa.LawFrames
