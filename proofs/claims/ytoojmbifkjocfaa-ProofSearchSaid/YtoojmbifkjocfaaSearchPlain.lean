/- Plain facts on moments, and on what is found among them. No program. -/
import Derived.Test.YtoojmbifkjocfaaPlain
namespace Go.Proofs.Ytoojmbifkjocfaa.Plain
open Go
set_option linter.unusedVariables false
set_option linter.unusedSimpArgs false

/-- Do moments rise, and are there some? -/
def riseB (l : List Int) : Bool := decide (0 < l.length ∧ ∀ i, i < l.length - 1 → nth l i < nth l (i + 1))
theorem riseB_no {l : List Int} {i : Nat} (h : i + 1 < l.length) (hn : ¬ nth l i < nth l (i + 1)) : riseB l = false :=
  decide_eq_false fun hh => hn (hh.2 i (by omega))
theorem riseB_yes {l : List Int} (h0 : 0 < l.length) (h : ∀ i, i + 1 < l.length → nth l i < nth l (i + 1)) : riseB l = true :=
  decide_eq_true ⟨h0, fun i hi => h i (by omega)⟩
theorem riseB_nil {l : List Int} (h0 : ¬ 0 < l.length) : riseB l = false := decide_eq_false fun hh => h0 hh.1
theorem riseB_spec {l : List Int} (h : riseB l = true) : 0 < l.length ∧ ∀ i, i + 1 < l.length → nth l i < nth l (i + 1) := by
  have h2 := of_decide_eq_true h
  exact ⟨h2.1, fun i hi => h2.2 i (by omega)⟩
/-- Is a moment bad, by a table of 64 bits? -/
def badT (t m : Int) : Bool := t / 2 ^ (m % 64).toNat % 2 == 1
/-- Is it bad, from a moment on? -/
def badF (n m : Int) : Bool := decide (n ≤ m)
/-- Halving from i and k on: where it ends, and all that was looked at. -/
def halve (l : List Int) (bad : Int → Bool) : Nat → Nat → Nat → List (Int × Bool) → Nat × List (Int × Bool)
  | 0, i, _, acc => (i, acc)
  | f + 1, i, k, acc => if k - i ≤ 1 then (i, acc) else if bad (nth l ((i + k) / 2)) = true then halve l bad f i ((i + k) / 2) (acc ++ [(nth l ((i + k) / 2), true)]) else halve l bad f ((i + k) / 2) k (acc ++ [(nth l ((i + k) / 2), false)])
theorem halve_end {l : List Int} {bad : Int → Bool} {f i k : Nat} {acc : List (Int × Bool)} (h : k - i ≤ 1) : halve l bad f i k acc = (i, acc) := by
  cases f with
  | zero => rfl
  | succ f => rw [halve, if_pos h]
theorem halve_bad {l : List Int} {bad : Int → Bool} {f i k : Nat} {acc : List (Int × Bool)} (h : ¬ k - i ≤ 1) (hf : k - i ≤ f) (hb : bad (nth l ((i + k) / 2)) = true) :
    ∃ g, (i + k) / 2 - i ≤ g ∧ halve l bad f i k acc = halve l bad g i ((i + k) / 2) (acc ++ [(nth l ((i + k) / 2), true)]) := by
  obtain ⟨g, rfl⟩ : ∃ g, f = g + 1 := ⟨f - 1, by omega⟩
  exact ⟨g, by omega, by rw [halve, if_neg h, if_pos hb]⟩
theorem halve_good {l : List Int} {bad : Int → Bool} {f i k : Nat} {acc : List (Int × Bool)} (h : ¬ k - i ≤ 1) (hf : k - i ≤ f) (hb : ¬ bad (nth l ((i + k) / 2)) = true) :
    ∃ g, k - (i + k) / 2 ≤ g ∧ halve l bad f i k acc = halve l bad g ((i + k) / 2) k (acc ++ [(nth l ((i + k) / 2), false)]) := by
  obtain ⟨g, rfl⟩ : ∃ g, f = g + 1 := ⟨f - 1, by omega⟩
  exact ⟨g, by omega, by rw [halve, if_neg h, if_neg hb]⟩
/-- What halves find: the moment, whether there is one, what was looked at. -/
structure Fnd where
  m : Int
  ok : Bool
  l : List (Int × Bool)
def lastS (l : List Int) (bad : Int → Bool) : Fnd :=
  if riseB l = false then ⟨0, false, []⟩
  else if bad (nth l (l.length - 1)) = false then ⟨nth l (l.length - 1), true, [(nth l (l.length - 1), false)]⟩
  else if l.length - 1 = 0 then ⟨0, false, [(nth l (l.length - 1), true)]⟩
  else if bad (nth l 0) = true then ⟨0, false, [(nth l (l.length - 1), true), (nth l 0, true)]⟩
  else ⟨nth l (halve l bad (l.length - 1) 0 (l.length - 1) [(nth l (l.length - 1), true), (nth l 0, false)]).1, true, (halve l bad (l.length - 1) 0 (l.length - 1) [(nth l (l.length - 1), true), (nth l 0, false)]).2⟩
/-- The first bad one among the first i; the number of all, if none is bad. -/
def fstB (l : List Int) (bad : Int → Bool) : Nat → Nat
  | 0 => l.length
  | i + 1 => if bad (nth l i) = true ∧ fstB l bad i = l.length then i else fstB l bad i
/-- What is looked at, of the first i. -/
def lkB (l : List Int) (bad : Int → Bool) : Nat → List (Int × Bool)
  | 0 => []
  | i + 1 => lkB l bad i ++ [(nth l i, bad (nth l i))]
theorem lkB_length (l : List Int) (bad : Int → Bool) : ∀ i, (lkB l bad i).length = i
  | 0 => rfl
  | i + 1 => by rw [lkB, List.length_append, lkB_length]; rfl
theorem fstB_le (l : List Int) (bad : Int → Bool) : ∀ i, i ≤ l.length → fstB l bad i ≤ l.length
  | 0, _ => Nat.le_refl _
  | i + 1, h => by
    rw [fstB]
    split
    · omega
    · exact fstB_le l bad i (by omega)
/-- What going through all finds. -/
def eachS (l : List Int) (bad : Int → Bool) : Fnd :=
  if riseB l = false then ⟨0, false, []⟩
  else if fstB l bad l.length = 0 then ⟨0, false, lkB l bad l.length⟩
  else ⟨nth l (fstB l bad l.length - 1), true, lkB l bad l.length⟩
end Go.Proofs.Ytoojmbifkjocfaa.Plain
