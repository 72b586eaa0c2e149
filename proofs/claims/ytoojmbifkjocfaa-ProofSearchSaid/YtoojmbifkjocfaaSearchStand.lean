/- What halves find stands before the moments, and is true; a lie about one look is found out. No program. -/
import Derived.Test.YtoojmbifkjocfaaSearchFewPlain
import Derived.Test.YtoojmbifkjocfaaProofPlain
namespace Go.Proofs.Ytoojmbifkjocfaa.Plain
open Go
set_option linter.unusedVariables false
set_option linter.unusedSimpArgs false
theorem rise_inc {l : List Int} (h : riseB l = true) : Inc l := fun i hi => (riseB_spec h).2 i (by omega)
theorem once_pairwise {xs : List (Int × Bool)} (h : Once xs) : xs.Pairwise (fun p q => p.1 ≠ q.1) := by
  rw [List.pairwise_iff_getElem]
  intro i j hi hj hij
  have := h i j hij hj
  rwa [List.getD_eq_getElem?_getD, List.getD_eq_getElem?_getD, List.getElem?_eq_getElem hi, List.getElem?_eq_getElem hj] at this
theorem last_first {l : List Int} {bad : Int → Bool} (h : riseB l = true) (ho : (lastS l bad).ok = false) : (nth l 0, true) ∈ (lastS l bad).l := by
  rw [lastS, if_neg (by simp [h])] at ho ⊢
  by_cases h1 : bad (nth l (l.length - 1)) = false
  · rw [if_pos h1] at ho; cases ho
  rw [if_neg h1] at ho ⊢
  by_cases h2 : l.length - 1 = 0
  · rw [if_pos h2, h2]; exact List.mem_cons_self
  rw [if_neg h2] at ho ⊢
  by_cases h3 : bad (nth l 0) = true
  · rw [if_pos h3]; exact List.mem_cons_of_mem _ List.mem_cons_self
  rw [if_neg h3] at ho
  cases ho
theorem last_nonempty {l : List Int} {bad : Int → Bool} (h : riseB l = true) : 0 < (lastS l bad).l.length := by
  cases ho : (lastS l bad).ok with
  | false => exact List.length_pos_of_mem (last_first h ho)
  | true =>
    rcases last_edge (bad := bad) h with ⟨h1, _⟩ | ⟨_, q, _, _, hq, _⟩
    · rw [ho] at h1; cases h1
    · exact List.length_pos_of_mem hq
theorem last_stand {l : List Int} (n : Int) (h : riseB l = true) : standB (lastS l (badF n)).m (lastS l (badF n)).ok (lastS l (badF n)).l l = true := by
  have ht := tru_last l (badF n)
  refine decide_eq_true ⟨rise_inc h, ⟨fun p hp => (ht p hp).1, once_pairwise (last_once l (badF n)), fun p hp hb q hq hb' => ?_⟩, ?_⟩
  · have h1 := (ht p hp).2
    have h2 := (ht q hq).2
    rw [hb] at h1
    rw [hb'] at h2
    have h3 := of_decide_eq_false h1.symm
    have h4 := of_decide_eq_true h2.symm
    omega
  · unfold Borne
    rcases last_edge (bad := badF n) h with ⟨h1, h2, _, _⟩ | ⟨h1, q, hq, hm, hg, hnx, _⟩
    · rw [if_neg (by simp [h1])]
      exact ⟨h2, fun _ => last_first h h1⟩
    · rw [if_pos h1]
      refine ⟨by rw [hm]; exact hg, fun k hk hkm => ?_⟩
      have hkq : k = q := inc_inj (rise_inc h) (by omega) hq (by rw [hkm, hm])
      subst hkq
      exact hnx (by omega)
theorem rise_not_nil {l : List Int} (h : riseB l = false) (hi : Inc l) : l = [] := by
  cases l with
  | nil => rfl
  | cons x l =>
    have := riseB_yes (l := x :: l) (by simp) (fun i hh => hi i (by simp at hh ⊢; omega))
    rw [h] at this
    cases this
theorem last_nil (bad : Int → Bool) : lastS [] bad = ⟨0, false, []⟩ := by rw [lastS, if_pos (riseB_nil (by simp))]
theorem stand_nil : standB 0 false [] [] = true := by decide
theorem last_short (l : List Int) (bad : Int → Bool) (h : l.length ≤ 40) : (lastS l bad).l.length ≤ 43 := by
  have := last_few l bad
  have := Nat.log2_le_self l.length
  omega
theorem last_m {l : List Int} (bad : Int → Bool) (h : ∀ x ∈ l, 0 ≤ x ∧ x < 2 ^ 64) : 0 ≤ (lastS l bad).m ∧ (lastS l bad).m < 2 ^ 64 := by
  cases hr : riseB l with
  | false => rw [lastS, if_pos hr]; exact ⟨by decide, by decide⟩
  | true =>
    rcases last_edge (bad := bad) hr with ⟨_, h2, _⟩ | ⟨_, q, hq, hm, _⟩
    · rw [h2]; exact ⟨by decide, by decide⟩
    · rw [hm]; exact h _ (nth_mem hq)
theorem last_mem {l : List Int} (bad : Int → Bool) (h : ∀ x ∈ l, 0 ≤ x ∧ x < 2 ^ 64) : ∀ p ∈ (lastS l bad).l, 0 ≤ p.1 ∧ p.1 < 2 ^ 64 := fun p hp => h _ (tru_last l bad p hp).1
end Go.Proofs.Ytoojmbifkjocfaa.Plain
