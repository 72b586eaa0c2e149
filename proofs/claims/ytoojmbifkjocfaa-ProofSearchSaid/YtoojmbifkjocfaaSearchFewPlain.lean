/- Plain facts: halves look at few, each once. No program. -/
import Derived.Test.YtoojmbifkjocfaaSearchEdgePlain
namespace Go.Proofs.Ytoojmbifkjocfaa.Plain
open Go
set_option linter.unusedVariables false
set_option linter.unusedSimpArgs false
theorem log2_two {n : Nat} (h : 1 < n) : Nat.log2 n = Nat.log2 (n / 2) + 1 := by
  rw [Nat.log2_def, if_pos (by omega)]
theorem log2_low {n : Nat} (h : ¬ 1 < n) : Nat.log2 n = 0 := by
  rw [Nat.log2_def, if_neg (by omega)]
theorem log2_mono : ∀ (f m n : Nat), n ≤ f → m ≤ n → Nat.log2 m ≤ Nat.log2 n
  | 0, m, n, h, hm => by
    have e1 : m = 0 := by omega
    have e2 : n = 0 := by omega
    subst e1; subst e2; exact Nat.le_refl _
  | f + 1, m, n, h, hm => by
    by_cases h1 : 1 < m
    · rw [log2_two h1, log2_two (n := n) (by omega)]
      have := log2_mono f (m / 2) (n / 2) (by omega) (by omega)
      omega
    · rw [log2_low h1]; exact Nat.zero_le _
/-- How many steps halves need, at the most. -/
def steps (g : Nat) : Nat := if g ≤ 1 then 0 else Nat.log2 (g - 1) + 1
theorem steps_half {g g' : Nat} (hg : ¬ g ≤ 1) (h : g' - 1 ≤ (g - 1) / 2) : 1 + steps g' ≤ steps g := by
  rw [steps, steps, if_neg hg]
  by_cases h1 : g' ≤ 1
  · rw [if_pos h1]; omega
  · rw [if_neg h1]
    have h2 := log2_mono _ _ _ (Nat.le_refl _) h
    have h3 : Nat.log2 (g - 1) = Nat.log2 ((g - 1) / 2) + 1 := log2_two (by omega)
    omega
theorem halve_len (l : List Int) (bad : Int → Bool) : ∀ f i k acc, i ≤ k → (halve l bad f i k acc).2.length ≤ acc.length + steps (k - i)
  | 0, i, k, acc, h => by rw [halve]; show acc.length ≤ _; omega
  | f + 1, i, k, acc, h => by
    rw [halve]
    by_cases hk : k - i ≤ 1
    · rw [if_pos hk]; show acc.length ≤ _; omega
    · rw [if_neg hk]
      by_cases hb : bad (nth l ((i + k) / 2)) = true
      · rw [if_pos hb]
        have h1 := halve_len l bad f i ((i + k) / 2) (acc ++ [(nth l ((i + k) / 2), true)]) (by omega)
        have h2 := steps_half (g := k - i) (g' := (i + k) / 2 - i) hk (by omega)
        rw [List.length_append, List.length_singleton] at h1
        omega
      · rw [if_neg hb]
        have h1 := halve_len l bad f ((i + k) / 2) k (acc ++ [(nth l ((i + k) / 2), false)]) (by omega)
        have h2 := steps_half (g := k - i) (g' := k - (i + k) / 2) hk (by omega)
        rw [List.length_append, List.length_singleton] at h1
        omega
theorem last_few (l : List Int) (bad : Int → Bool) : (lastS l bad).l.length ≤ 3 + Nat.log2 l.length := by
  rw [lastS]
  split
  · simp
  split
  · simp; omega
  split
  · simp; omega
  split
  · simp; omega
  · have h := halve_len l bad (l.length - 1) 0 (l.length - 1) [(nth l (l.length - 1), true), (nth l 0, false)] (Nat.zero_le _)
    simp only [List.length_cons, List.length_nil] at h
    have h2 : steps (l.length - 1 - 0) ≤ Nat.log2 l.length + 1 := by
      rw [steps]
      split
      · omega
      · have := log2_mono _ _ _ (Nat.le_refl _) (show l.length - 1 - 0 - 1 ≤ l.length by omega)
        omega
    show (halve l bad (l.length - 1) 0 (l.length - 1) [(nth l (l.length - 1), true), (nth l 0, false)]).2.length ≤ _
    omega
theorem last_unrisen {l : List Int} {bad : Int → Bool} (h : riseB l = false) : (lastS l bad).l = [] := by rw [lastS, if_pos h]
/-- The moments of two looks are two. -/
abbrev Once (xs : List (Int × Bool)) : Prop := ∀ a b : Nat, a < b → b < xs.length → (xs.getD a (0, false)).1 ≠ (xs.getD b (0, false)).1
theorem once_add {xs : List (Int × Bool)} (h : Once xs) (m : Int) (b : Bool) (hm : ∀ p ∈ xs, p.1 ≠ m) : Once (xs ++ [(m, b)]) := by
  intro a c hac hc
  rw [List.length_append, List.length_singleton] at hc
  have ea : (xs ++ [(m, b)]).getD a (0, false) = xs.getD a (0, false) := by
    rw [List.getD_eq_getElem?_getD, List.getElem?_append_left (by omega), List.getD_eq_getElem?_getD]
  rw [ea]
  by_cases hcl : c < xs.length
  · have ec : (xs ++ [(m, b)]).getD c (0, false) = xs.getD c (0, false) := by
      rw [List.getD_eq_getElem?_getD, List.getElem?_append_left hcl, List.getD_eq_getElem?_getD]
    rw [ec]; exact h a c hac hcl
  · have ec : (xs ++ [(m, b)]).getD c (0, false) = (m, b) := by
      have : c = xs.length := by omega
      subst this
      rw [List.getD_eq_getElem?_getD, List.getElem?_append_right (Nat.le_refl _)]; simp
    rw [ec]
    refine hm _ ?_
    rw [List.getD_eq_getElem?_getD, List.getElem?_eq_getElem (show a < xs.length by omega)]
    exact List.getElem_mem _
theorem rise_lt2 {l : List Int} (h : riseB l = true) : ∀ a b : Nat, a < b → b < l.length → nth l a < nth l b := fun a b h1 h2 => rise_lt h a b h1 h2
theorem halve_once {l : List Int} (bad : Int → Bool) (hr : riseB l = true) : ∀ f i k acc, i < k → k < l.length → Once acc → (∀ p ∈ acc, p.1 ≤ nth l i ∨ nth l k ≤ p.1) → Once (halve l bad f i k acc).2
  | 0, i, k, acc, _, _, h, _ => by rw [halve]; exact h
  | f + 1, i, k, acc, hik, hk, h, ha => by
    rw [halve]
    by_cases h1 : k - i ≤ 1
    · rw [if_pos h1]; exact h
    · rw [if_neg h1]
      have m1 := rise_lt hr i ((i + k) / 2) (by omega) (by omega)
      have m2 := rise_lt hr ((i + k) / 2) k (by omega) hk
      have hne : ∀ p ∈ acc, p.1 ≠ nth l ((i + k) / 2) := fun p hp he => by
        rcases ha p hp with h2 | h2 <;> omega
      by_cases hb : bad (nth l ((i + k) / 2)) = true
      · rw [if_pos hb]
        refine halve_once bad hr f _ _ _ (by omega) (by omega) (once_add h _ _ hne) ?_
        intro p hp
        rcases List.mem_append.1 hp with hp | hp
        · rcases ha p hp with h2 | h2
          · exact .inl h2
          · exact .inr (by omega)
        · have : p = (nth l ((i + k) / 2), true) := by simpa using hp
          subst this; exact .inr (Int.le_refl _)
      · rw [if_neg hb]
        refine halve_once bad hr f _ _ _ (by omega) hk (once_add h _ _ hne) ?_
        intro p hp
        rcases List.mem_append.1 hp with hp | hp
        · rcases ha p hp with h2 | h2
          · exact .inl (by omega)
          · exact .inr h2
        · have : p = (nth l ((i + k) / 2), false) := by simpa using hp
          subst this; exact .inl (Int.le_refl _)
theorem once_nil : Once [] := fun a b h1 h2 => absurd h2 (by simp)
theorem last_once (l : List Int) (bad : Int → Bool) : Once (lastS l bad).l := by
  rw [lastS]
  by_cases h : riseB l = false
  · rw [if_pos h]; exact once_nil
  rw [if_neg h]
  have h' : riseB l = true := by simpa using h
  obtain ⟨h0, _⟩ := riseB_spec h'
  have o1 : ∀ b, Once [(nth l (l.length - 1), b)] := fun b => once_add once_nil _ b (fun p hp => by cases hp)
  split
  · exact o1 _
  split
  · exact o1 _
  rename_i h1 h2
  have hlt := rise_lt h' 0 (l.length - 1) (by omega) (by omega)
  have o2 : ∀ b, Once [(nth l (l.length - 1), true), (nth l 0, b)] := fun b => once_add (o1 true) _ b (fun p hp => by
    have : p = (nth l (l.length - 1), true) := by simpa using hp
    subst this; show nth l (l.length - 1) ≠ nth l 0; omega)
  split
  · exact o2 _
  · refine halve_once bad h' _ _ _ _ (by omega) (by omega) (o2 false) ?_
    intro p hp
    simp only [List.mem_cons, List.not_mem_nil, or_false] at hp
    rcases hp with rfl | rfl
    · exact .inr (Int.le_refl _)
    · exact .inl (Int.le_refl _)
end Go.Proofs.Ytoojmbifkjocfaa.Plain
