/- WireNests answers true for every list of lists of parts. No conditions. -/
import Derived.Test.YtfbbnodlikcocaaWireRef
namespace Go.Proofs.Ytfbbnodlikcocaa.LawNests
open Go.RowKit Go.Proofs.YtfbbnodlikcocaaW.PrintWords Go.Proofs.YtfbbnodlikcocaaW.PrintLast Go.Proofs.YtfbbnodlikcocaaW.PrintMore Go.Proofs.Ytfbbnodlikcocaa.Kit Go.Proofs.Ytfbbnodlikcocaa.Plain Go.Proofs.Ytfbbnodlikcocaa.Wire
set_option linter.unusedVariables false
set_option linter.unusedSimpArgs false

set_option maxHeartbeats 1600000 in
set_option maxRecDepth 100000 in
theorem nests_any (A0 : Option Addr) (m0 c0 : Nat) (l : List (List (List Int))) (w : World)
    (hr0 : Kd.C Rww w A0 m0 l) (hl : ∀ q ∈ l, ∀ p ∈ q, Byt p) :
    Calls Try.prog 10 #[.slice A0 m0 c0] w fun e w' => e = .returned (.bool true) ∧ Below w.heap.size w w' := by
  obtain rfl := C_len hr0
  have HB := Aside0.mk (Below.refl w.heap.size w)
  have hmax0 := C_max hr0
  have HR0 := Aside0.mk hr0
  have HY := Aside0.mk hl
  clear hr0 hl
  by_cases h0 : 6 < l.length
  · go_enter Try.func10, Try.ntmps10
    go_wp2_with (go_at_call 11; refine (awake_any _).mono ?_; rintro e w1 ⟨rfl, hb⟩; clear HB; have HB := Aside0.mk hb; clear hb)
    go_ret
    exact ⟨rfl, HB.out⟩
  have g0 : decide (6 < (l.length : Int)) = false := decide_eq_false (by omega)
  go_enter Try.func10, Try.ntmps10
  go_wp2_with (go_at_call 11; refine (awake_any _).mono ?_; rintro e w1 ⟨rfl, hb⟩; clear HB; have HB := Aside0.mk hb; clear hb)
  clear g0
  go_loopg [3, 4] l.length (fun gk v3 v4 w' => ∃ (i : Nat) (rows : List (List Int)), v4 = .int .i64 i ∧ i + gk = l.length ∧ Aside0 ((∀ j, j < i → (nthQ l j).length ≤ 6 ∧ ∀ p ∈ nthQ l j, p.length ≤ 60) ∧ rows = (l.take i).map frm) ∧
    Aside0 (Kd.R Rw 22 w' w.heap.size (fun _ => True) v3 rows) ∧ Aside0 (Below w.heap.size w w'))
  case atStart => exact ⟨0, [], rfl, by omega, ⟨fun j hj => by omega, rfl⟩, ⟨Kd.R_nil _ _ _ _ _⟩, HB⟩
  case round =>
    clear HB
    obtain ⟨i, rows, rfl, hi, HI, HO, HB⟩ := hrel
    have HRL : Aside0 (rows.length = i) := ⟨by rw [HI.out.2, List.length_map, List.length_take]; omega⟩
    by_cases hlt : i < l.length
    · obtain ⟨ad, B, bc, rfl, hcw, hbc, hrb⟩ := C_rows HR0.out i hlt
      have HCW := Aside0.mk hcw
      have HRB := Aside0.mk hrb
      have hmq := C_max hrb
      obtain ⟨q, hq⟩ : ∃ q, q = nthQ l i := ⟨_, rfl⟩
      rw [← hq] at HCW HRB hmq
      have HQ := Aside0.mk hq
      clear hcw hbc hrb hq
      have hc := pw_cell_below HB.out HCW.out
      by_cases h6 : 6 < q.length
      · go_wp2
        go_ret
        exact ⟨rfl, HB.out⟩
      obtain ⟨wo, rfl⟩ : ∃ wo : World, wo = wr := ⟨_, rfl⟩
      obtain ⟨go, rfl⟩ : ∃ go : Nat, go = gk := ⟨_, rfl⟩
      go_wp2
      go_loopg [5] q.length (fun gk v w' => ∃ k : Nat, v = .int .i64 k ∧ k + gk = q.length ∧ Aside0 (∀ j, j < k → (nthR q j).length ≤ 60) ∧ wo = w')
      case atStart => exact ⟨0, rfl, by omega, ⟨fun j hj => by omega⟩, rfl⟩
      case round =>
        obtain ⟨k, rfl, hk, HK, rfl⟩ := hrel
        by_cases hkt : k < q.length
        · obtain ⟨ad2, B2, bc2, rfl, hcw2, hbc2, hrb2⟩ := C_row HRB.out k hkt
          have hc2 := pw_cell_below HB.out hcw2
          clear hcw2 hbc2 hrb2
          obtain ⟨p, hp⟩ : ∃ p, p = nthR q k := ⟨_, rfl⟩
          rw [← hp] at hc2
          by_cases h3 : 60 < p.length
          · clear hp
            go_wp2
            go_ret
            exact ⟨rfl, HB.out⟩
          · have HK2 : Aside0 (∀ j, j < k + 1 → (nthR q j).length ≤ 60) := ⟨fun j hj => by
              rcases Nat.lt_or_ge j k with h | h
              · exact HK.out j h
              · obtain rfl : j = k := by omega
                rw [← hp]; omega⟩
            clear hp
            go_wp2
            go_roundg (gk - 1)
            case measure => omega
            case rel => exact ⟨k + 1, rfl, by omega, HK2, rfl⟩
        · obtain rfl : q.length = k := by omega
          have hall : ∀ p ∈ q, p.length ≤ 60 := fun p hp => by
            obtain ⟨j, hj, rfl⟩ := List.getElem_of_mem hp
            rw [← nthR_eq hj]
            exact HK.out j hj
          have HI2 : Aside0 ((∀ j, j < i + 1 → (nthQ l j).length ≤ 6 ∧ ∀ p ∈ nthQ l j, p.length ≤ 60) ∧ rows ++ [frm q] = (l.take (i + 1)).map frm) := ⟨by
            refine ⟨fun j hj => ?_, by rw [takeQ_map hlt, ← HI.out.2, ← HQ.out]⟩
            rcases Nat.lt_or_ge j i with h | h
            · exact HI.out.1 j h
            · obtain rfl : j = i := by omega
              rw [← HQ.out]; exact ⟨by omega, hall⟩⟩
          have HA := Aside0.mk (show ∀ p ∈ q, p.length ≤ 65535 from fun p hp => by have := hall p hp; omega)
          clear hall
          go_wp2_with (first
            | (go_at_call 19; refine (frame_yes _ _ _ q _ (Kd.C_below HRB.out HB.out) HA.out (by omega)).mono ?_; rintro e w2 ⟨v2, rfl, ho, hb⟩; have HSZ := Aside0.mk HB.out.size; obtain ⟨A2, c2, rfl⟩ := Kd.R_slice ho; have HO2 := Aside0.mk (Kd.R_lower (Kd.R_new' ho (Kd.R_lt HO.out)) HSZ.out); replace HO := Aside0.mk (Kd.R_below HO.out hb); replace HB := Aside0.mk (HB.out.trans (hb.mono HB.out.size)); clear ho hb HSZ)
            | ((with_reducible refine gate_builtin (b := .append) (xs := #[.tmp 60, .tmp 62]) rfl ?_); at_builtin; (refine Kd.R_append Rw (w0 := w) w.heap.size rfl (.tmp 60) (.tmp 62) 34 22 (.slice none 0 0) 24 rfl Try.underlying34 infoRow rfl (by decide) (by omega) u3 rows (frm q) [.slice A2 (frm q).length c2] (fun _ => True) (fun k => True ∧ some k ≠ u3.ownBlock) rfl rfl ?hp ?hokp (fun _ _ => trivial) HO.out HB.out HB.out.size (by have := HRL.out; omega) ?_; (case hp => exact Kd.M_row HO2.out); (case hokp => exact fun k hk => hk); intro v3 w3 ho hb hg hat; clear HB; have HB := Aside0.mk hb; have HO3 := Aside0.mk ho; clear ho hb hg hat)))
          go_roundg (go - 1)
          case measure => omega
          case rel => exact ⟨i + 1, rows ++ [frm q], rfl, by omega, HI2, HO3, HB⟩
    · obtain rfl : l.length = i := by omega
      obtain ⟨hI, hrows⟩ := HI.out
      rw [List.take_length] at hrows
      have hq : ∀ q ∈ l, q.length ≤ 6 ∧ ∀ p ∈ q, p.length ≤ 60 := fun q hq => by
        obtain ⟨j, hj, rfl⟩ := List.getElem_of_mem hq
        rw [← nthQ_eq hj]
        exact hI j hj
      have hrow : ∀ r ∈ rows, r.length ≤ 372 ∧ Byt r := fun r hr => by
        rw [hrows, List.mem_map] at hr
        obtain ⟨q, hql, rfl⟩ := hr
        have h1 := frm_len (hq q hql).2
        have h2 : q.length * (60 + 2) ≤ 6 * 62 := Nat.mul_le_mul (hq q hql).1 (Nat.le_refl _)
        exact ⟨by omega, Byt.frm (HY.out q hql)⟩
      have h1 := frm_len (l := rows) (m := 372) (fun r hr => (hrow r hr).1)
      have h2 : rows.length * (372 + 2) ≤ 6 * 374 := Nat.mul_le_mul (by have := HRL.out; omega) (Nat.le_refl _)
      have hr6 : ∀ r ∈ rows, r.length ≤ 65535 := fun r hr => by have := (hrow r hr).1; omega
      have HF := Aside0.mk (And.intro hr6 (And.intro (show (frm rows).length ≤ 3000 by omega) (And.intro (partsS_frm hr6) (Byt.frm (fun r hr => (hrow r hr).2)))))
      have HG := Aside0.mk (And.intro hrow (And.intro hrows hq))
      have hrl : rows.length ≤ 6 := by have := HRL.out; omega
      clear h1 h2 hr6 hrow hrows hq hI HI
      obtain ⟨A3, c3, rfl, hcap3, hr3⟩ := OwR_slice HO.out
      have HR3 := Aside0.mk hr3
      clear hr3 hcap3 HO
      obtain ⟨wo, rfl⟩ : ∃ wo : World, wo = wr := ⟨_, rfl⟩
      go_wp2_with (first
        | (go_at_call 19; refine (frame_yes _ _ _ rows _ HR3.out HF.out.1 (by omega)).mono ?_; rintro e w2 ⟨v2, rfl, ho, hb⟩; obtain ⟨A2, c2, rfl, hcap2, hr2⟩ := Ow_slice ho; have HR2 := Aside0.mk hr2; have HC2 := Aside0.mk hcap2; replace HR3 := Aside0.mk (Kd.C_below HR3.out hb); replace HB := Aside0.mk (HB.out.trans (hb.mono HB.out.size)); clear ho hb hr2 hcap2)
        | (go_at_call 21; refine (parts_any A2 _ c2 _ _ HR2.out HC2.out HF.out.2.2.2 (by have := HF.out.2.1; omega)).mono ?_; rintro e w4 ⟨v4, rfl, ho, hb⟩; rw [HF.out.2.2.1] at ho ⊢; obtain ⟨A4, c4, rfl, hcap4, hr4⟩ := OwR_slice ho; have HR4 := Aside0.mk hr4; replace HR3 := Aside0.mk (Kd.C_below HR3.out hb); replace HB := Aside0.mk (HB.out.trans (hb.mono HB.out.size)); clear ho hb hr4 hcap4 HR2)
        | (go_at_call 23; refine (rows_yes _ _ _ _ _ _ _ _ _ HR4.out HR3.out rfl).mono ?_; rintro e w5 ⟨rfl, hb⟩; replace HR4 := Aside0.mk (Kd.C_below HR4.out hb); replace HB := Aside0.mk (HB.out.trans (hb.mono HB.out.size)); clear hb))
      clear HR3
      go_loopg [12] rows.length (fun gk v w' => ∃ k : Nat, v = .int .i64 k ∧ k + gk = rows.length ∧ Aside0 (Kd.C Rw w' A4 rows.length rows) ∧ Aside0 (Below w.heap.size w w'))
      case atStart => exact ⟨0, rfl, by omega, HR4, HB⟩
      case round =>
        clear HR4 HB
        obtain ⟨k, rfl, hk, HR4, HB⟩ := hrel
        by_cases hkt : k < rows.length
        · have hkl : k < l.length := by have := HRL.out; omega
          obtain ⟨ad4, B4, bc4, rfl, hc4, hb4, hr4⟩ := C_row HR4.out k hkt
          obtain ⟨ad0, B0, bc0, rfl, hcw, hb0, hr0⟩ := C_rows HR0.out k hkl
          have HCW := Aside0.mk hcw
          obtain ⟨q, hq⟩ : ∃ q, q = nthQ l k := ⟨_, rfl⟩
          have hqm : q ∈ l := by rw [hq]; exact nthQ_mem hkl
          have hrk : nthR rows k = frm q := by rw [HG.out.2.1, nthR_map hkl, hq]
          have hqb := HG.out.1 _ (nthR_mem hkt)
          have hq6 := HG.out.2.2 q hqm
          rw [hrk] at hc4 hb4 hr4 hqb
          rw [← hq] at hr0 HCW
          have HK := Aside0.mk (And.intro hb4 (And.intro hqb (partsS_frm (l := q) (fun p hp => by have := hq6.2 p hp; omega))))
          have HRB4 := Aside0.mk hr4
          have HRB0 := Aside0.mk hr0
          have hq60 := hq6.1
          clear hcw hb0 hr0 hr4 hb4 hqb hq6 hqm hrk hq
          obtain ⟨go, rfl⟩ : ∃ go : Nat, go = gk := ⟨_, rfl⟩
          go_wp2_with (first
            | (go_at_call 21; refine (parts_any B4 _ bc4 _ _ HRB4.out HK.out.1 HK.out.2.1.2 (by have := HK.out.2.1.1; omega)).mono ?_; rintro e w6 ⟨v6, rfl, ho, hb⟩; rw [HK.out.2.2] at ho ⊢; obtain ⟨A6, c6, rfl, hcap6, hr6⟩ := OwR_slice ho; have HR6 := Aside0.mk hr6; replace HR4 := Aside0.mk (Kd.C_below HR4.out hb); replace HB := Aside0.mk (HB.out.trans (hb.mono HB.out.size)); clear ho hb hr6 hcap6; have hcx := pw_cell_below HB.out HCW.out)
            | (go_at_call 23; refine (rows_yes _ _ _ _ _ _ _ _ _ HR6.out (Kd.C_below HRB0.out HB.out) rfl).mono ?_; rintro e w7 ⟨rfl, hb⟩; replace HR4 := Aside0.mk (Kd.C_below HR4.out hb); replace HB := Aside0.mk (HB.out.trans (hb.mono HB.out.size)); clear hb))
          go_roundg (go - 1)
          case measure => omega
          case rel => exact ⟨k + 1, rfl, by omega, HR4, HB⟩
        · obtain rfl : rows.length = k := by omega
          go_wp2
          go_ret
          exact ⟨rfl, HB.out⟩
end Go.Proofs.Ytfbbnodlikcocaa.LawNests
