/- How far proof.Decode is, in plain Lean: what its takes answer, round by round, and what decP says at each end. -/
import Derived.Test.YtoojmbifkjocfaaProofEnc
namespace Go.Proofs.Ytoojmbifkjocfaa.Proof
open Go.RowKit Go.Proofs.Ytoojmbifkjocfaa.Kit Go.Proofs.Ytoojmbifkjocfaa.Plain Go.Proofs.Ytoojmbifkjocfaa.Wire
set_option linter.unusedVariables false
set_option linter.unusedSimpArgs false
theorem tk_yes {b : List Int} {m n : Nat} (h : m + n ≤ b.length) : tkM b m 0 n = m + n ∧ tkE b m 0 n = 0 ∧ tkV b m 0 n = gv b m n :=
  ⟨by rw [tkM, if_pos ⟨rfl, h⟩], by rw [tkE, if_pos rfl, if_pos h], by rw [tkV, if_pos rfl]⟩
theorem tk_no {b : List Int} {m n : Nat} (h : b.length < m + n) : tkM b m 0 n = m ∧ tkE b m 0 n = 14 ∧ tkV b m 0 n = 0 :=
  ⟨by rw [tkM, if_neg (by omega)], by rw [tkE, if_pos rfl, if_neg (by omega)], by rw [tkV, if_pos rfl, gv, if_neg (by omega)]⟩
theorem tk_off {b : List Int} {m n : Nat} {e : Int} (h : e ≠ 0) : tkM b m e n = m ∧ tkE b m e n = e ∧ tkV b m e n = 0 :=
  ⟨by rw [tkM, if_neg (fun q => h q.1)], by rw [tkE, if_neg h], by rw [tkV, if_neg h]⟩
/-- Whether one of the first j flags, or the answer's, is neither 0 nor 1. -/
def oddJ (b : List Int) (j : Nat) : Bool := decide (1 < gv b 0 1) || (List.range j).any (oddAt b)
theorem oddJ_step (b : List Int) (j : Nat) : oddJ b (j + 1) = (oddJ b j || oddAt b j) := by
  simp [oddJ, List.range_succ, Bool.or_assoc]
theorem oddJ_all (b : List Int) : oddJ b (kP b) = oddP b := rfl
theorem map_step (b : List Int) (j : Nat) : (List.range (j + 1)).map (lookAt b) = (List.range j).map (lookAt b) ++ [lookAt b j] := by simp [List.range_succ]
theorem decP_head {b : List Int} (h : b.length < 11) : decP b = ((0, false, []), 14) := by rw [decP, if_pos h]
theorem decP_round {b : List Int} {j : Nat} (h : 11 ≤ b.length) (hj : j < kP b) (hs : b.length < 20 + 9 * j) : decP b = ((0, false, []), 14) := by
  rw [decP, if_neg (by omega), if_pos (by unfold totP; omega)]
theorem decP_end {b : List Int} (h : 11 + 9 * kP b ≤ b.length) :
    decP b = if oddJ b (kP b) = true ∨ 0 < b.length - (11 + 9 * kP b) then ((0, false, []), 3) else ((gv b 1 8, decide (gv b 0 1 = 1), (List.range (kP b)).map (lookAt b)), 0) := by
  rw [decP, if_neg (by omega), if_neg (by unfold totP; omega), oddJ_all]
  by_cases ho : oddP b = true
  · rw [if_pos (Or.inl ho), if_pos (Or.inl ho)]
  by_cases hl : totP b < b.length
  · rw [if_pos (Or.inr hl), if_pos (Or.inr (by unfold totP at hl; omega))]
  · have hl' : ¬ 0 < b.length - (11 + 9 * kP b) := by unfold totP at hl; omega
    rw [if_neg (fun q => q.elim ho hl), if_neg (fun q => q.elim ho hl')]
/-- The three takes ahead of the loop. -/
theorem head_yes {b : List Int} (h : 11 ≤ b.length) : (tkM b 0 0 1 = 1 ∧ tkE b 0 0 1 = 0) ∧ (tkM b 1 0 8 = 9 ∧ tkE b 1 0 8 = 0 ∧ tkV b 1 0 8 = gv b 1 8) ∧ (tkM b 9 0 2 = 11 ∧ tkE b 9 0 2 = 0 ∧ tkV b 9 0 2 = gv b 9 2) :=
  ⟨⟨(tk_yes (by omega)).1, (tk_yes (by omega)).2.1⟩, tk_yes (by omega), tk_yes (by omega)⟩
theorem head_no {b : List Int} (h : b.length < 11) : tkV b (tkM b (tkM b 0 0 1) (tkE b 0 0 1) 8) (tkE b (tkM b 0 0 1) (tkE b 0 0 1) 8) 2 = 0 ∧ tkE b (tkM b (tkM b 0 0 1) (tkE b 0 0 1) 8) (tkE b (tkM b 0 0 1) (tkE b 0 0 1) 8) 2 = 14 := by
  have h14 : (14 : Int) ≠ 0 := by decide
  by_cases h1 : b.length < 1
  · obtain ⟨a1, a2, _⟩ := tk_no (b := b) (m := 0) (n := 1) (by omega)
    obtain ⟨b1, b2, _⟩ := tk_off (b := b) (m := 0) (n := 8) h14
    obtain ⟨c1, c2, c3⟩ := tk_off (b := b) (m := 0) (n := 2) h14
    rw [a1, a2, b1, b2, c2, c3]; exact ⟨rfl, rfl⟩
  obtain ⟨a1, a2, _⟩ := tk_yes (b := b) (m := 0) (n := 1) (by omega)
  rw [a1, a2]
  by_cases h2 : b.length < 9
  · obtain ⟨b1, b2, _⟩ := tk_no (b := b) (m := 0 + 1) (n := 8) (by omega)
    obtain ⟨c1, c2, c3⟩ := tk_off (b := b) (m := 0 + 1) (n := 2) h14
    rw [b1, b2, c2, c3]; exact ⟨rfl, rfl⟩
  obtain ⟨b1, b2, _⟩ := tk_yes (b := b) (m := 0 + 1) (n := 8) (by omega)
  rw [b1, b2]
  obtain ⟨c1, c2, c3⟩ := tk_no (b := b) (m := 0 + 1 + 8) (n := 2) (by omega)
  exact ⟨c3, c2⟩
/-- A round: the moment, and the flag behind it. -/
theorem round_yes {b : List Int} {j : Nat} (h : 20 + 9 * j ≤ b.length) : (tkM b (11 + 9 * j) 0 8 = 19 + 9 * j ∧ tkE b (11 + 9 * j) 0 8 = 0 ∧ tkV b (11 + 9 * j) 0 8 = gv b (11 + 9 * j) 8) ∧ tkM b (19 + 9 * j) 0 1 = 11 + 9 * (j + 1) ∧ tkE b (19 + 9 * j) 0 1 = 0 ∧ flV b (19 + 9 * j) 0 = (lookAt b j).2 ∧ ∀ o, flO b (19 + 9 * j) 0 o = (o || oddAt b j) := by
  obtain ⟨a1, a2, a3⟩ := tk_yes (b := b) (m := 11 + 9 * j) (n := 8) (by omega)
  obtain ⟨b1, b2, b3⟩ := tk_yes (b := b) (m := 19 + 9 * j) (n := 1) (by omega)
  exact ⟨⟨by omega, a2, a3⟩, by omega, b2, by rw [flV, b3]; rfl, fun o => by rw [flO, b3]; rfl⟩
theorem round_no {b : List Int} {j : Nat} (h : b.length < 20 + 9 * j) : tkE b (tkM b (11 + 9 * j) 0 8) (tkE b (11 + 9 * j) 0 8) 1 = 14 := by
  by_cases h1 : b.length < 19 + 9 * j
  · obtain ⟨a1, a2, _⟩ := tk_no (b := b) (m := 11 + 9 * j) (n := 8) (by omega)
    rw [a1, a2, (tk_off (by decide)).2.1]
  obtain ⟨a1, a2, _⟩ := tk_yes (b := b) (m := 11 + 9 * j) (n := 8) (by omega)
  rw [a1, a2, (tk_no (by omega)).2.1]
end Go.Proofs.Ytoojmbifkjocfaa.Proof
