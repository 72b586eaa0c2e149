/- Plain facts: what halves found is an edge. No program. -/
import Derived.Test.YtoojmbifkjocfaaSearchLooks
namespace Go.Proofs.Ytoojmbifkjocfaa.Plain
open Go
set_option linter.unusedVariables false
set_option linter.unusedSimpArgs false
theorem halve_edge (l : List Int) (bad : Int → Bool) : ∀ f i k acc, i < k → k < l.length → k - i ≤ f → (nth l i, false) ∈ acc → (nth l k, true) ∈ acc →
    (halve l bad f i k acc).1 < k ∧ (nth l (halve l bad f i k acc).1, false) ∈ (halve l bad f i k acc).2 ∧ (nth l ((halve l bad f i k acc).1 + 1), true) ∈ (halve l bad f i k acc).2 ∧ (halve l bad f i k acc).2.length + 1 ≤ acc.length + (k - i)
  | 0, i, k, acc, h1, h2, h3, _, _ => by omega
  | f + 1, i, k, acc, h1, h2, h3, h4, h5 => by
    rw [halve]
    by_cases hk : k - i ≤ 1
    · rw [if_pos hk]
      have : i + 1 = k := by omega
      exact ⟨h1, h4, by show (nth l (i + 1), true) ∈ acc; rw [this]; exact h5, by show acc.length + 1 ≤ _; omega⟩
    · rw [if_neg hk]
      by_cases hb : bad (nth l ((i + k) / 2)) = true
      · rw [if_pos hb]
        obtain ⟨a, b, c, d⟩ := halve_edge l bad f i ((i + k) / 2) (acc ++ [(nth l ((i + k) / 2), true)]) (by omega) (by omega) (by omega) (List.mem_append_left _ h4) (by simp)
        rw [List.length_append, List.length_singleton] at d
        exact ⟨by omega, b, c, by omega⟩
      · rw [if_neg hb]
        obtain ⟨a, b, c, d⟩ := halve_edge l bad f ((i + k) / 2) k (acc ++ [(nth l ((i + k) / 2), false)]) (by omega) h2 (by omega) (by simp) (List.mem_append_left _ h5)
        rw [List.length_append, List.length_singleton] at d
        exact ⟨a, b, c, by omega⟩
/-- What halves found, of moments that rise: none, and the first and the last are bad; or a good one behind which a bad one stands, or none. -/
theorem last_edge {l : List Int} {bad : Int → Bool} (h : riseB l = true) :
    ((lastS l bad).ok = false ∧ (lastS l bad).m = 0 ∧ bad (nth l 0) = true ∧ bad (nth l (l.length - 1)) = true) ∨
    ((lastS l bad).ok = true ∧ ∃ q, q < l.length ∧ (lastS l bad).m = nth l q ∧ (nth l q, false) ∈ (lastS l bad).l ∧ (q + 1 < l.length → (nth l (q + 1), true) ∈ (lastS l bad).l) ∧ (lastS l bad).l.length ≤ l.length) := by
  obtain ⟨h0, _⟩ := riseB_spec h
  rw [lastS, if_neg (by simp [h])]
  by_cases h1 : bad (nth l (l.length - 1)) = false
  · rw [if_pos h1]
    exact .inr ⟨rfl, l.length - 1, by omega, rfl, by simp, fun hh => by omega, by simp; omega⟩
  · rw [if_neg h1]
    have h1' : bad (nth l (l.length - 1)) = true := by simpa using h1
    by_cases h2 : l.length - 1 = 0
    · rw [if_pos h2]
      exact .inl ⟨rfl, rfl, by rw [h2] at h1'; exact h1', h1'⟩
    · rw [if_neg h2]
      by_cases h3 : bad (nth l 0) = true
      · rw [if_pos h3]; exact .inl ⟨rfl, rfl, h3, h1'⟩
      · rw [if_neg h3]
        obtain ⟨a, b, c, d⟩ := halve_edge l bad (l.length - 1) 0 (l.length - 1) [(nth l (l.length - 1), true), (nth l 0, false)] (by omega) (by omega) (by omega) (by simp) (by simp)
        simp only [List.length_cons, List.length_nil] at d
        have e : (halve l bad (l.length - 1) 0 (l.length - 1) [(nth l (l.length - 1), true), (nth l 0, false)]).2.length ≤ l.length := by omega
        exact .inr ⟨rfl, _, by omega, rfl, b, fun _ => c, e⟩
end Go.Proofs.Ytoojmbifkjocfaa.Plain
