/- Plain facts: what is looked at lies among the moments, and is told as it is. No program. -/
import Derived.Test.YtoojmbifkjocfaaSearchCut
namespace Go.Proofs.Ytoojmbifkjocfaa.Plain
open Go
set_option linter.unusedVariables false
set_option linter.unusedSimpArgs false
abbrev Tru (l : List Int) (bad : Int → Bool) (xs : List (Int × Bool)) : Prop := ∀ p ∈ xs, p.1 ∈ l ∧ p.2 = bad p.1
theorem tru_add {l : List Int} {bad : Int → Bool} {xs : List (Int × Bool)} (h : Tru l bad xs) {i : Nat} (hi : i < l.length) {b : Bool} (hb : b = bad (nth l i)) : Tru l bad (xs ++ [(nth l i, b)]) := by
  intro p hp
  rcases List.mem_append.1 hp with hp | hp
  · exact h p hp
  · have : p = (nth l i, b) := by simpa using hp
    subst this
    exact ⟨nth_mem hi, hb⟩
theorem tru_nil (l : List Int) (bad : Int → Bool) : Tru l bad [] := fun p hp => by cases hp
theorem tru_lk (l : List Int) (bad : Int → Bool) : ∀ i, i ≤ l.length → Tru l bad (lkB l bad i)
  | 0, _ => tru_nil _ _
  | i + 1, h => by rw [lkB]; exact tru_add (tru_lk l bad i (by omega)) (by omega) rfl
theorem tru_halve (l : List Int) (bad : Int → Bool) : ∀ f i k acc, i ≤ k → k < l.length → Tru l bad acc → Tru l bad (halve l bad f i k acc).2
  | 0, i, k, acc, _, _, h => h
  | f + 1, i, k, acc, hik, hk, h => by
    rw [halve]
    by_cases h1 : k - i ≤ 1
    · rw [if_pos h1]; exact h
    · rw [if_neg h1]
      by_cases h2 : bad (nth l ((i + k) / 2)) = true
      · rw [if_pos h2]; exact tru_halve l bad f _ _ _ (by omega) (by omega) (tru_add h (by omega) h2.symm)
      · rw [if_neg h2]; exact tru_halve l bad f _ _ _ (by omega) hk (tru_add h (by omega) (by simpa using h2))
theorem tru_each (l : List Int) (bad : Int → Bool) : Tru l bad (eachS l bad).l := by
  rw [eachS]
  split
  · exact tru_nil _ _
  · split
    · exact tru_lk l bad _ (Nat.le_refl _)
    · exact tru_lk l bad _ (Nat.le_refl _)
theorem tru_last (l : List Int) (bad : Int → Bool) : Tru l bad (lastS l bad).l := by
  rw [lastS]
  by_cases h : riseB l = false
  · rw [if_pos h]; exact tru_nil _ _
  · rw [if_neg h]
    have h' : riseB l = true := by simpa using h
    obtain ⟨h0, _⟩ := riseB_spec h'
    by_cases h1 : bad (nth l (l.length - 1)) = false
    · rw [if_pos h1]; exact tru_add (tru_nil _ _) (by omega) h1.symm
    · rw [if_neg h1]
      have h1' : bad (nth l (l.length - 1)) = true := by simpa using h1
      have t1 : Tru l bad ([] ++ [(nth l (l.length - 1), true)]) := tru_add (tru_nil _ _) (by omega) h1'.symm
      by_cases h2 : l.length - 1 = 0
      · rw [if_pos h2]; exact t1
      · rw [if_neg h2]
        by_cases h3 : bad (nth l 0) = true
        · rw [if_pos h3]; exact tru_add t1 h0 h3.symm
        · rw [if_neg h3]
          exact tru_halve l bad _ _ _ _ (by omega) (by omega) (tru_add t1 h0 (by simpa using h3))
end Go.Proofs.Ytoojmbifkjocfaa.Plain
