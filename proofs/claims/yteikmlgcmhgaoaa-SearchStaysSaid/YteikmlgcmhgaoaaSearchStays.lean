/- If badness stays: what halves find is what going through all finds. -/
import Derived.Test.YteikmlgcmhgaoaaSearchUse
import Derived.Test.YteikmlgcmhgaoaaSearchCut
import Derived.IntWalk
import Derived.Outline
import Derived.Deep.DeepMust
namespace Go.Proofs.Yteikmlgcmhgaoaa.Search
open Go.RowKit Go.Proofs.YteikmlgcmhgaoaaW.PrintWords Go.Proofs.YteikmlgcmhgaoaaW.PrintLast Go.Proofs.YteikmlgcmhgaoaaW.PrintMore Go.Proofs.Yteikmlgcmhgaoaa.Kit Go.Proofs.Yteikmlgcmhgaoaa.Plain
set_option linter.unusedVariables false
set_option linter.unusedSimpArgs false
set_option maxHeartbeats 1600000 in
set_option maxRecDepth 100000 in
theorem sstays_any (A : Option Addr) (n c : Nat) (l : List Int) (tb : Int) (w : World) (hr : RdM w A n l) (hl : ∀ x ∈ l, 0 ≤ x) :
    Calls Try.prog 7 #[.slice A n c, .int .u64 tb] w fun e w' => e = .returned (.bool true) ∧ Below w.heap.size w w' := by
  obtain rfl := C_len hr
  have HB := Aside0.mk (Below.refl w.heap.size w)
  have HR := Aside0.mk hr
  clear hr
  by_cases hn : l.length ≤ 200
  · have f1 : decide ((200 : Int) < (l.length : Int)) = false := decide_eq_false (by omega)
    have hn2 : l.length ≤ 100000 := by omega
    by_cases hrise : riseB l = false
    · go_enter Try.func7, Try.ntmps7
      go_wp2_with (first
        | (go_at_call 11; refine (awake_any _).mono ?_; rintro e w1 ⟨rfl, hb⟩; replace HR := Aside0.mk (Kd.C_below HR.out hb); replace HB := Aside0.mk (HB.out.trans (hb.mono HB.out.size)); clear hb)
        | (go_at_call 16; refine (refrise_any _ _ _ l _ HR.out).mono ?_; rintro e w1 ⟨rfl, hb⟩; rw [hrise]; replace HB := Aside0.mk (HB.out.trans (hb.mono HB.out.size)); clear hb))
      go_ret
      exact ⟨rfl, HB.out⟩
    have hrise1 : riseB l = true := by simpa using hrise
    obtain ⟨hl0, _⟩ := riseB_spec hrise1
    obtain ⟨m, hm⟩ : ∃ m, m = (wantS l tb l.length).1 := ⟨_, rfl⟩
    obtain ⟨o, ho⟩ : ∃ o, o = (wantS l tb l.length).2 := ⟨_, rfl⟩
    obtain ⟨h1, h2⟩ := stays_last hrise1 tb
    obtain ⟨h3, h4⟩ := stays_each hrise1 tb
    rw [← hm] at h1 h3
    rw [← ho] at h2 h4
    have HM := Aside0.mk (And.intro hm ho)
    have HF := Aside0.mk (And.intro (And.intro h1 h2) (And.intro h3 h4))
    clear h1 h2 h3 h4 hm ho
    go_enter Try.func7, Try.ntmps7
    go_wp2_with (first
        | (go_at_call 11; refine (awake_any _).mono ?_; rintro e w1 ⟨rfl, hb⟩; replace HR := Aside0.mk (Kd.C_below HR.out hb); replace HB := Aside0.mk (HB.out.trans (hb.mono HB.out.size)); clear hb)
        | (go_at_call 16; refine (refrise_any _ _ _ l _ HR.out).mono ?_; rintro e w2 ⟨rfl, hb⟩; rw [hrise1]; replace HR := Aside0.mk (Kd.C_below HR.out hb); replace HB := Aside0.mk (HB.out.trans (hb.mono HB.out.size)); clear hb)
        | (go_at_call 20; refine (from_any tb _).mono ?_; rintro e w3 ⟨g, rfl, hc, _, hb⟩; have HC := Aside0.mk hc; replace HR := Aside0.mk (Kd.C_below HR.out hb); replace HB := Aside0.mk (HB.out.trans (hb.mono HB.out.size)); clear hb hc)
        | (go_at_call 14; refine (last_st _ HR.out hl hn2 (asks_from HR.out HC.out)).mono ?_; rintro e w4 ⟨A4, c4, rfl, _, hb⟩; rw [HF.out.1.1, HF.out.1.2]; replace HR := Aside0.mk (Kd.C_below HR.out hb); replace HB := Aside0.mk (HB.out.trans (hb.mono HB.out.size)); clear hb)
        | (go_at_call 19; refine (each_st _ HR.out hl hn2 (asks_from HR.out HC.out)).mono ?_; rintro e w5 ⟨A5, c5, rfl, _, hb⟩; rw [HF.out.2.1, HF.out.2.2]; replace HR := Aside0.mk (Kd.C_below HR.out hb); replace HB := Aside0.mk (HB.out.trans (hb.mono HB.out.size)); clear hb))
    obtain ⟨W6, hW6⟩ : ∃ W6, W6 = (w5.alloc (Obj.cells #[.int .u64 m, .bool o, .slice A4 (lastS l (badF tb)).l.length c4] 31)).alloc (Obj.cells #[.int .u64 m, .bool o, .slice A5 (eachS l (badF tb)).l.length c5] 31) := ⟨_, rfl⟩
    rw [← hW6]
    obtain ⟨k5, k6, hb6⟩ := two_new (w := w5) (o1 := (Obj.cells #[.int .u64 m, .bool o, .slice A4 (lastS l (badF tb)).l.length c4] 31)) (o2 := (Obj.cells #[.int .u64 m, .bool o, .slice A5 (eachS l (badF tb)).l.length c5] 31)) (Below.refl _ _)
    rw [← hW6] at k5 k6 hb6
    clear hW6
    replace HR := Aside0.mk (Kd.C_below HR.out hb6)
    replace HB := Aside0.mk (HB.out.trans (hb6.mono HB.out.size))
    have p0 : W6.cell? ⟨w5.heap.size, 0, none⟩ = some (.int .u64 m) := blk_cell k5 0
    have p1 : W6.cell? ⟨w5.heap.size, 1, none⟩ = some (.bool o) := blk_cell k5 1
    have q0 : W6.cell? ⟨w5.heap.size + 1, 0, none⟩ = some (.int .u64 m) := blk_cell k6 0
    have q1 : W6.cell? ⟨w5.heap.size + 1, 1, none⟩ = some (.bool o) := blk_cell k6 1
    clear k5 k6 hb6
    go_loopg [7, 8, 9] l.length (fun gk v7 v8 v9 w' => ∃ (i : Nat) (x : Int) (p : Bool), v7 = .int .u64 x ∧ v8 = .bool p ∧ v9 = .int .i64 (i : Int) ∧ i + gk = l.length ∧ Aside0 (x = (wantS l tb i).1 ∧ p = (wantS l tb i).2) ∧ w' = W6)
    case atStart => exact ⟨0, 0, false, rfl, rfl, rfl, by omega, ⟨rfl, rfl⟩, rfl⟩
    case round =>
      obtain ⟨i, x, p, rfl, rfl, rfl, hig, HW, rfl⟩ := hrel
      by_cases hgo : i < l.length
      · obtain ⟨ad, rfl, hcx⟩ := C_at HR.out i hgo
        by_cases hb : nth l i < tb
        · have HW2 : Aside0 (nth l i = (wantS l tb (i + 1)).1 ∧ true = (wantS l tb (i + 1)).2) := ⟨by rw [wantS, if_pos hb]; exact ⟨rfl, rfl⟩⟩
          have f2 : decide (nth l i < tb) = true := decide_eq_true hb
          clear hb
          go_wp2
          go_roundg (gk - 1)
          case measure => omega
          case rel => exact ⟨i + 1, nth l i, true, rfl, rfl, by go_num, by omega, HW2, rfl⟩
        · have HW2 : Aside0 (x = (wantS l tb (i + 1)).1 ∧ p = (wantS l tb (i + 1)).2) := ⟨by rw [wantS, if_neg hb]; exact HW.out⟩
          have f2 : decide (nth l i < tb) = false := decide_eq_false hb
          clear hb
          go_wp2
          go_roundg (gk - 1)
          case measure => omega
          case rel => exact ⟨i + 1, x, p, rfl, rfl, by go_num, by omega, HW2, rfl⟩
      · obtain rfl : i = l.length := by omega
        obtain rfl : x = m := HW.out.1.trans HM.out.1.symm
        obtain rfl : p = o := HW.out.2.trans HM.out.2.symm
        go_wp2
        go_ret
        exact ⟨rfl, HB.out⟩
  · have f1 : decide ((200 : Int) < (l.length : Int)) = true := decide_eq_true (by omega)
    go_enter Try.func7, Try.ntmps7
    go_wp2_with (go_at_call 11; refine (awake_any _).mono ?_; rintro e w1 ⟨rfl, hb⟩; replace HB := Aside0.mk (HB.out.trans (hb.mono HB.out.size)); clear hb)
    go_ret
    exact ⟨rfl, HB.out⟩
end Go.Proofs.Yteikmlgcmhgaoaa.Search
