/- Plain facts: moments with more behind them, and some left out. No program. -/
import Derived.Test.YteikmlgcmhgaoaaSearchCut
namespace Go.Proofs.Yteikmlgcmhgaoaa.Plain
open Go
set_option linter.unusedVariables false
set_option linter.unusedSimpArgs false
theorem nth_app_lt {l m : List Int} {i : Nat} (h : i < l.length) : nth (l ++ m) i = nth l i := by
  unfold nth
  rw [List.getD_eq_getElem?_getD, List.getD_eq_getElem?_getD, List.getElem?_append_left h]
theorem nth_app_last (l : List Int) (x : Int) : nth (l ++ [x]) l.length = x := by
  unfold nth
  simp
theorem rise_of {l : List Int} (h0 : 0 < l.length) (h : ∀ i j, i < j → j < l.length → nth l i < nth l j) : riseB l = true :=
  riseB_yes h0 (fun i hi => h i (i + 1) (by omega) hi)
theorem rise_left {l m : List Int} (h : riseB (l ++ m) = true) (h0 : 0 < l.length) : riseB l = true := by
  refine rise_of h0 (fun i j hij hj => ?_)
  have := rise_lt h i j hij (by simp; omega)
  rwa [nth_app_lt hj, nth_app_lt (by omega)] at this
theorem want_left {l m : List Int} (n : Int) : ∀ i, i ≤ l.length → wantS (l ++ m) n i = wantS l n i
  | 0, _ => rfl
  | i + 1, h => by rw [wantS, wantS, nth_app_lt (by omega), want_left n i (by omega)]
theorem want_more {l m : List Int} (h : riseB (l ++ m) = true) (h0 : 0 < l.length) (n : Int) (hn : n ≤ nth l (l.length - 1)) : ∀ k, k ≤ m.length → wantS (l ++ m) n (l.length + k) = wantS l n l.length
  | 0, _ => want_left n _ (Nat.le_refl _)
  | k + 1, hk => by
    have h1 := rise_lt h (l.length - 1) (l.length + k) (by omega) (by simp; omega)
    rw [nth_app_lt (by omega)] at h1
    show wantS (l ++ m) n (l.length + k + 1) = _
    rw [wantS, if_neg (by omega)]
    exact want_more h h0 n hn k (by omega)
theorem want_all {l m : List Int} (h : riseB (l ++ m) = true) (h0 : 0 < l.length) (n : Int) (hn : n ≤ nth l (l.length - 1)) : wantS (l ++ m) n (l ++ m).length = wantS l n l.length := by
  rw [List.length_append]; exact want_more h h0 n hn m.length (Nat.le_refl _)
/-- Every second one, and the last, of the first i. -/
def fewS (l : List Int) : Nat → List Int
  | 0 => []
  | i + 1 => if i % 2 = 0 ∨ i = l.length - 1 then fewS l i ++ [nth l i] else fewS l i
theorem fewS_len (l : List Int) : ∀ i, (fewS l i).length ≤ i
  | 0 => Nat.le_refl _
  | i + 1 => by
    have := fewS_len l i
    rw [fewS]
    split
    · simp; omega
    · omega
theorem fewS_mem (l : List Int) : ∀ i x, x ∈ fewS l i → ∃ j, j < i ∧ nth l j = x
  | 0, x, h => by cases h
  | i + 1, x, h => by
    rw [fewS] at h
    split at h
    · rcases List.mem_append.1 h with h | h
      · obtain ⟨j, h1, h2⟩ := fewS_mem l i x h; exact ⟨j, by omega, h2⟩
      · exact ⟨i, by omega, (by simpa using h : x = nth l i).symm⟩
    · obtain ⟨j, h1, h2⟩ := fewS_mem l i x h; exact ⟨j, by omega, h2⟩
theorem fewS_asc {l : List Int} (h : riseB l = true) : ∀ k, k ≤ l.length → ∀ i j, i < j → j < (fewS l k).length → nth (fewS l k) i < nth (fewS l k) j
  | 0, _, i, j, h1, h2 => by simp [fewS] at h2
  | k + 1, hk, i, j, h1, h2 => by
    have ih := fewS_asc h k (by omega)
    rw [fewS] at h2 ⊢
    by_cases hc : k % 2 = 0 ∨ k = l.length - 1
    · rw [if_pos hc] at h2 ⊢
      rw [List.length_append, List.length_singleton] at h2
      by_cases hj : j = (fewS l k).length
      · subst hj
        rw [nth_app_last, nth_app_lt h1]
        obtain ⟨q, hq, he⟩ := fewS_mem l k _ (nth_mem h1)
        rw [← he]
        exact rise_lt h q k hq (by omega)
      · rw [nth_app_lt (by omega), nth_app_lt (by omega)]
        exact ih i j h1 (by omega)
    · rw [if_neg hc] at h2 ⊢
      exact ih i j h1 h2
theorem fewS_pos {l : List Int} (h0 : 0 < l.length) : ∀ k, 0 < k → 0 < (fewS l k).length
  | 0, h => by omega
  | k + 1, _ => by
    rw [fewS]
    by_cases hc : k % 2 = 0 ∨ k = l.length - 1
    · rw [if_pos hc]; simp
    · rw [if_neg hc]
      exact fewS_pos h0 k (by omega)
theorem few_rise {l : List Int} (h : riseB l = true) : riseB (fewS l l.length) = true := by
  obtain ⟨h0, _⟩ := riseB_spec h
  exact rise_of (fewS_pos h0 _ h0) (fewS_asc h _ (Nat.le_refl _))
theorem want_mem {l : List Int} (n : Int) : ∀ i, i ≤ l.length → (wantS l n i).2 = true → (wantS l n i).1 ∈ l ∧ (wantS l n i).1 < n
  | 0, _, h => by simp [wantS] at h
  | i + 1, hi, h => by
    rw [wantS] at h ⊢
    by_cases hn : nth l i < n
    · rw [if_pos hn]; exact ⟨nth_mem (by omega), hn⟩
    · rw [if_neg hn] at h ⊢; exact want_mem n i (by omega) h
theorem want_ge {l : List Int} (h : riseB l = true) (n : Int) : ∀ i, i ≤ l.length → ∀ j, j < i → nth l j < n → (wantS l n i).2 = true ∧ nth l j ≤ (wantS l n i).1
  | 0, _, j, hj, _ => by omega
  | i + 1, hi, j, hj, hn => by
    rw [wantS]
    by_cases hc : nth l i < n
    · rw [if_pos hc]
      refine ⟨rfl, ?_⟩
      by_cases he : j = i
      · subst he; exact Int.le_refl _
      · exact Int.le_of_lt (rise_lt h j i (by omega) (by omega))
    · rw [if_neg hc]
      have : j ≠ i := fun he => hc (he ▸ hn)
      exact want_ge h n i (by omega) j (by omega) hn
/-- What is found of a few is no more than what is found of all. -/
theorem few_le {l : List Int} (h : riseB l = true) (n : Int) (ho : (wantS (fewS l l.length) n (fewS l l.length).length).2 = true) :
    (wantS l n l.length).2 = true ∧ (wantS (fewS l l.length) n (fewS l l.length).length).1 ≤ (wantS l n l.length).1 := by
  obtain ⟨h1, h2⟩ := want_mem n _ (Nat.le_refl _) ho
  obtain ⟨j, hj, he⟩ := fewS_mem l _ _ h1
  rw [← he] at h2 ⊢
  exact want_ge h n _ (Nat.le_refl _) j hj h2
end Go.Proofs.Yteikmlgcmhgaoaa.Plain
