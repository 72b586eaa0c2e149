/- WireAgain answers true for every two numbers and every count of bytes. No conditions. -/
import Derived.Test.YtfbbnodlikcocaaWire
import Derived.IntWalk
namespace Go.Proofs.Ytfbbnodlikcocaa.LawAgain
open Go.RowKit Go.Proofs.YtfbbnodlikcocaaW.PrintWords Go.Proofs.YtfbbnodlikcocaaW.PrintLast Go.Proofs.YtfbbnodlikcocaaW.PrintMore Go.Proofs.Ytfbbnodlikcocaa.Kit Go.Proofs.Ytfbbnodlikcocaa.Plain Go.Proofs.Ytfbbnodlikcocaa.Wire
set_option linter.unusedVariables false
set_option linter.unusedSimpArgs false

set_option maxHeartbeats 800000 in
set_option maxRecDepth 100000 in
theorem again_any (n m z : Int) (w : World) (hn : 0 ≤ n ∧ n < 2 ^ 64) (hm : 0 ≤ m ∧ m < 2 ^ 64) (hz : 0 ≤ z ∧ z < 256) :
    Calls Try.prog 6 #[.int .u64 n, .int .u64 m, .int .u8 z] w fun e w' => e = .returned (.bool true) ∧ Below w.heap.size w w' := by
  have HB := Aside0.mk (Below.refl w.heap.size w)
  have HN := Aside0.mk (And.intro hn hm)
  clear hn hm
  obtain ⟨hz0, hz1⟩ := hz
  obtain ⟨k, hk⟩ : ∃ k : Nat, 1 + z % 8 = (k : Int) := ⟨(1 + z % 8).toNat, by omega⟩
  have hk1 : 1 ≤ k := by omega
  have hk8 : k ≤ 8 := by omega
  by_cases hlt : k < 8
  · have e1 : IntKind.i64.wrap (8 * (k : Int)) = ((8 * k : Nat) : Int) := by rw [IntWalk.i64_in _ (by omega)]; simp
    have e2 : (0 : Int) ≤ ((8 * k : Nat) : Int) := by omega
    have e3 : ((8 * k : Nat) : Int) ≤ 64 := by omega
    obtain ⟨P, hP⟩ : ∃ P : Int, P = 2 ^ (8 * k) := ⟨_, rfl⟩
    have hP0 : 0 < P := by rw [hP]; exact Int.pow_pos (by decide)
    have hP1 : P < 2 ^ 64 := by rw [hP]; exact pow_lt (by omega)
    have e4 : IntKind.u64.wrap (2 ^ (8 * (k : Int)).toNat) = P := by
      rw [show (8 * (k : Int)).toNat = 8 * k by omega, ← hP]
      exact wrap_u64_in P (by omega) hP1
    have e5 : (P == 0) = false := beq_eq_false_iff_ne.mpr (by omega)
    have e6 : (P = 0) = False := eq_false (by omega)
    obtain ⟨n1, hn1⟩ : ∃ n1, n1 = n % P := ⟨_, rfl⟩
    obtain ⟨m1, hm1⟩ : ∃ m1, m1 = m % P := ⟨_, rfl⟩
    have e7 : n.tmod P = n1 := by rw [hn1, Int.tmod_eq_emod_of_nonneg HN.out.1.1]
    have e8 : m.tmod P = m1 := by rw [hm1, Int.tmod_eq_emod_of_nonneg HN.out.2.1]
    have HF := Aside0.mk (And.intro hP (And.intro hn1 hm1))
    clear hP hn1 hm1 hP1
    go_enter Try.func6, Try.ntmps6
    go_wp2_with (first
      | (go_at_call 11; refine (awake_any _).mono ?_; rintro e w1 ⟨rfl, hb⟩; clear HB; have HB := Aside0.mk hb; clear hb))
    go_quiet (fail)
    replace HB := Aside0.mk (pw_below_drewN HB.out nq)
    have hn64 : n1 % 2 ^ (8 * k) = n1 := by rw [← HF.out.1, HF.out.2.1, Int.emod_emod_of_dvd _ (Int.dvd_refl _)]
    have hm64 : m1 % 2 ^ (8 * k) = m1 := by rw [← HF.out.1, HF.out.2.2, Int.emod_emod_of_dvd _ (Int.dvd_refl _)]
    obtain ⟨f1, f2, f3, f4, f5, f6⟩ := again_facts hn64 hm64
    have HL := Aside0.mk (show (1 ≤ (put n1 k).length ∧ (put n1 k).length ≤ 8) ∧ (1 ≤ (put m1 k).length ∧ (put m1 k).length ≤ 8) by rw [put_len, put_len]; exact ⟨⟨hk1, hk8⟩, ⟨hk1, hk8⟩⟩)
    clear hn64 hm64
    go_wp2_with (first
      | (go_at_call 17; first | ((with_reducible refine (put_yes n1 k _ hk1 hk8).mono ?_); rintro e w4 ⟨v4, rfl, ho, hb⟩; obtain ⟨A4, c4, rfl, hcap4, hr4⟩ := Ow_slice ho; have HR4 := Aside0.mk hr4; replace HB := Aside0.mk (HB.out.trans (hb.mono HB.out.size)); clear ho hb hr4) | ((with_reducible refine (put_yes m1 k _ hk1 hk8).mono ?_); rintro e w5 ⟨v5, rfl, ho, hb⟩; obtain ⟨A5, c5, rfl, hcap5, hr5⟩ := Ow_slice ho; have HR5 := Aside0.mk hr5; replace HR4 := Aside0.mk (Kd.C_below HR4.out hb); replace HB := Aside0.mk (HB.out.trans (hb.mono HB.out.size)); clear ho hb hr5))
      | (go_at_call 15; first | ((with_reducible refine (get_yes _ _ _ _ _ HR4.out (Byt.put _ _) HL.out.1.1 HL.out.1.2).mono ?_); rintro e w6 ⟨rfl, rfl⟩) | ((with_reducible refine (get_yes _ _ _ _ _ HR5.out (Byt.put _ _) HL.out.2.1 HL.out.2.2).mono ?_); rintro e w7 ⟨rfl, rfl⟩); have hs4 := Kd.C_string (P := Try.prog) (c := c4) Try.underlying22 Try.underlying5 Try.underlying9 HR4.out; have hs5 := Kd.C_string (P := Try.prog) (c := c5) Try.underlying22 Try.underlying5 Try.underlying9 HR5.out))
    go_ret
    exact ⟨rfl, HB.out⟩
  · have hn64 : n % 2 ^ (8 * k) = n := by
      rw [show k = 8 by omega]
      have := HN.out.1
      omega
    have hm64 : m % 2 ^ (8 * k) = m := by
      rw [show k = 8 by omega]
      have := HN.out.2
      omega
    go_enter Try.func6, Try.ntmps6
    go_wp2_with (first
      | (go_at_call 11; refine (awake_any _).mono ?_; rintro e w1 ⟨rfl, hb⟩; clear HB; have HB := Aside0.mk hb; clear hb))
    obtain ⟨f1, f2, f3, f4, f5, f6⟩ := again_facts hn64 hm64
    have HL := Aside0.mk (show (1 ≤ (put n k).length ∧ (put n k).length ≤ 8) ∧ (1 ≤ (put m k).length ∧ (put m k).length ≤ 8) by rw [put_len, put_len]; exact ⟨⟨hk1, hk8⟩, ⟨hk1, hk8⟩⟩)
    clear hn64 hm64
    go_wp2_with (first
      | (go_at_call 17; first | ((with_reducible refine (put_yes n k _ hk1 hk8).mono ?_); rintro e w4 ⟨v4, rfl, ho, hb⟩; obtain ⟨A4, c4, rfl, hcap4, hr4⟩ := Ow_slice ho; have HR4 := Aside0.mk hr4; replace HB := Aside0.mk (HB.out.trans (hb.mono HB.out.size)); clear ho hb hr4) | ((with_reducible refine (put_yes m k _ hk1 hk8).mono ?_); rintro e w5 ⟨v5, rfl, ho, hb⟩; obtain ⟨A5, c5, rfl, hcap5, hr5⟩ := Ow_slice ho; have HR5 := Aside0.mk hr5; replace HR4 := Aside0.mk (Kd.C_below HR4.out hb); replace HB := Aside0.mk (HB.out.trans (hb.mono HB.out.size)); clear ho hb hr5))
      | (go_at_call 15; first | ((with_reducible refine (get_yes _ _ _ _ _ HR4.out (Byt.put _ _) HL.out.1.1 HL.out.1.2).mono ?_); rintro e w6 ⟨rfl, rfl⟩) | ((with_reducible refine (get_yes _ _ _ _ _ HR5.out (Byt.put _ _) HL.out.2.1 HL.out.2.2).mono ?_); rintro e w7 ⟨rfl, rfl⟩); have hs4 := Kd.C_string (P := Try.prog) (c := c4) Try.underlying22 Try.underlying5 Try.underlying9 HR4.out; have hs5 := Kd.C_string (P := Try.prog) (c := c5) Try.underlying22 Try.underlying5 Try.underlying9 HR5.out))
    go_ret
    exact ⟨rfl, HB.out⟩
end Go.Proofs.Ytfbbnodlikcocaa.LawAgain
