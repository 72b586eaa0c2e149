/- Plain facts: where badness stays, what is found. No program. -/
import Derived.Test.YtoojmbifkjocfaaSearchPlain
namespace Go.Proofs.Ytoojmbifkjocfaa.Plain
open Go
set_option linter.unusedVariables false
set_option linter.unusedSimpArgs false
/-- Bad from place c on. -/
structure Cut (l : List Int) (bad : Int → Bool) (c : Nat) : Prop where
  le : c ≤ l.length
  is : ∀ i, i < l.length → bad (nth l i) = decide (c ≤ i)
theorem rise_lt {l : List Int} (h : riseB l = true) : ∀ i j, i < j → j < l.length → nth l i < nth l j := by
  obtain ⟨_, h2⟩ := riseB_spec h
  intro i j hij hj
  induction j with
  | zero => omega
  | succ j ih =>
    by_cases he : i = j
    · subst he; exact h2 i hj
    · have := ih (by omega) (by omega)
      have := h2 j hj
      omega
/-- How many are below n. -/
def cutN (l : List Int) (n : Int) : Nat → Nat
  | 0 => 0
  | i + 1 => if nth l i < n then i + 1 else cutN l n i
theorem cutN_le (l : List Int) (n : Int) : ∀ i, cutN l n i ≤ i
  | 0 => Nat.le_refl _
  | i + 1 => by
    rw [cutN]
    split
    · omega
    · have := cutN_le l n i; omega
theorem cutN_is {l : List Int} (h : riseB l = true) (n : Int) : ∀ k, k ≤ l.length → ∀ i, i < k → badF n (nth l i) = decide (cutN l n k ≤ i)
  | 0, _, i, hi => by omega
  | k + 1, hk, i, hi => by
    rw [cutN]
    by_cases hn : nth l k < n
    · rw [if_pos hn]
      have : nth l i < n := by
        by_cases he : i = k
        · rw [he]; exact hn
        · have := rise_lt h i k (by omega) (by omega); omega
      rw [badF, decide_eq_false (by omega), decide_eq_false (by omega)]
    · rw [if_neg hn]
      by_cases he : i = k
      · subst he
        have := cutN_le l n i
        rw [badF, decide_eq_true (by omega), decide_eq_true (by omega)]
      · exact cutN_is h n k (by omega) i (by omega)
theorem cut_is {l : List Int} (h : riseB l = true) (n : Int) : Cut l (badF n) (cutN l n l.length) := ⟨cutN_le _ _ _, cutN_is h n l.length (Nat.le_refl _)⟩
theorem halve_cut {l : List Int} {bad : Int → Bool} {c : Nat} (hc : Cut l bad c) : ∀ f i k acc, i < c → c ≤ k → k < l.length → k - i ≤ f → (halve l bad f i k acc).1 = c - 1
  | 0, i, k, acc, h1, h2, h3, h4 => by omega
  | f + 1, i, k, acc, h1, h2, h3, h4 => by
    rw [halve]
    by_cases hk : k - i ≤ 1
    · rw [if_pos hk]; show i = c - 1; omega
    · rw [if_neg hk, hc.is _ (show (i + k) / 2 < l.length by omega)]
      by_cases hm : c ≤ (i + k) / 2
      · rw [if_pos (by simpa using hm)]
        exact halve_cut hc f i ((i + k) / 2) _ h1 hm (by omega) (by omega)
      · rw [if_neg (by simpa using hm)]
        exact halve_cut hc f ((i + k) / 2) k _ (by omega) h2 h3 (by omega)
theorem last_cut {l : List Int} {bad : Int → Bool} {c : Nat} (h : riseB l = true) (hc : Cut l bad c) :
    (lastS l bad).m = (if c = 0 then 0 else nth l (c - 1)) ∧ (lastS l bad).ok = decide (0 < c) := by
  obtain ⟨h0, _⟩ := riseB_spec h
  have hle := hc.le
  rw [lastS, if_neg (by simp [h])]
  have e1 := hc.is (l.length - 1) (by omega)
  have e0 := hc.is 0 (by omega)
  by_cases hl : c ≤ l.length - 1
  · rw [decide_eq_true hl] at e1
    rw [if_neg (by simp [e1])]
    by_cases hz : l.length - 1 = 0
    · rw [if_pos hz, if_pos (by omega)]
      exact ⟨rfl, (decide_eq_false (by omega)).symm⟩
    · rw [if_neg hz]
      by_cases hc0 : c = 0
      · rw [decide_eq_true (by omega)] at e0
        rw [if_pos e0, if_pos hc0]
        exact ⟨rfl, (decide_eq_false (by omega)).symm⟩
      · rw [decide_eq_false (by omega)] at e0
        rw [if_neg (by simp [e0]), if_neg hc0]
        exact ⟨by rw [halve_cut hc _ _ _ _ (by omega) hl (by omega) (by omega)], (decide_eq_true (by omega)).symm⟩
  · rw [decide_eq_false hl] at e1
    rw [if_pos e1, if_neg (by omega)]
    have : c - 1 = l.length - 1 := by omega
    exact ⟨by rw [this], (decide_eq_true (by omega)).symm⟩
theorem fstB_cut {l : List Int} {bad : Int → Bool} {c : Nat} (hc : Cut l bad c) : ∀ i, i ≤ l.length → fstB l bad i = if c < i then c else l.length
  | 0, _ => by rw [fstB, if_neg (by omega)]
  | i + 1, hi => by
    have ih := fstB_cut hc i (by omega)
    have hle := hc.le
    rw [fstB, ih, hc.is i (by omega)]
    by_cases h1 : c < i
    · rw [if_pos h1, if_neg (by omega), if_pos (by omega)]
    · rw [if_neg h1]
      by_cases h2 : c = i
      · rw [if_pos ⟨by simp; omega, rfl⟩, if_pos (by omega), h2]
      · rw [if_neg (by simp; omega), if_neg (by omega)]
theorem each_cut {l : List Int} {bad : Int → Bool} {c : Nat} (h : riseB l = true) (hc : Cut l bad c) :
    (eachS l bad).m = (if c = 0 then 0 else nth l (c - 1)) ∧ (eachS l bad).ok = decide (0 < c) := by
  have hle := hc.le
  have hf : fstB l bad l.length = c := by
    rw [fstB_cut hc l.length (Nat.le_refl _)]
    split <;> omega
  rw [eachS, if_neg (by simp [h]), hf]
  by_cases hc0 : c = 0
  · rw [if_pos hc0, if_pos hc0]; exact ⟨rfl, (decide_eq_false (by omega)).symm⟩
  · rw [if_neg hc0, if_neg hc0]; exact ⟨rfl, (decide_eq_true (by omega)).symm⟩
/-- The last one below n, among the first i. -/
def wantS (l : List Int) (n : Int) : Nat → Int × Bool
  | 0 => (0, false)
  | i + 1 => if nth l i < n then (nth l i, true) else wantS l n i
theorem wantS_cutN (l : List Int) (n : Int) : ∀ i, wantS l n i = (if cutN l n i = 0 then 0 else nth l (cutN l n i - 1), decide (0 < cutN l n i))
  | 0 => rfl
  | i + 1 => by
    rw [wantS, cutN]
    by_cases h : nth l i < n
    · rw [if_pos h, if_pos h]; simp
    · rw [if_neg h, if_neg h]; exact wantS_cutN l n i
theorem stays_last {l : List Int} (h : riseB l = true) (n : Int) : (lastS l (badF n)).m = (wantS l n l.length).1 ∧ (lastS l (badF n)).ok = (wantS l n l.length).2 := by
  rw [wantS_cutN]; exact last_cut h (cut_is h n)
theorem stays_each {l : List Int} (h : riseB l = true) (n : Int) : (eachS l (badF n)).m = (wantS l n l.length).1 ∧ (eachS l (badF n)).ok = (wantS l n l.length).2 := by
  rw [wantS_cutN]; exact each_cut h (cut_is h n)
end Go.Proofs.Ytoojmbifkjocfaa.Plain
