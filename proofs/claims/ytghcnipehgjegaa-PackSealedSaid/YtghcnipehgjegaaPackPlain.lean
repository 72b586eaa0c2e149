/- Into which bodies rows of bytes are filled, in plain Lean. No program. -/
import Derived.Test.YtghcnipehgjegaaCellAll
namespace Go.Proofs.Ytghcnipehgjegaa.Plain
open Go
set_option linter.unusedVariables false
set_option linter.unusedSimpArgs false
/-- One more row of bytes: into the last body, or into a new one. -/
def stepB (B : List (List Int)) (y : List Int) : List (List Int) :=
  if B.length = 0 ∨ 103 < (nthR B (B.length - 1)).length + y.length then B ++ [y] else B.set (B.length - 1) (nthR B (B.length - 1) ++ y)
def stepP (s : List (List Int) × List Int) (y : List Int) : List (List Int) × List Int := (stepB s.1 y, s.2 ++ [(((stepB s.1 y).length - 1 : Nat) : Int)])
/-- The bodies, and in which each row is. -/
def fillP (ys : List (List Int)) : List (List Int) × List Int := ys.foldl stepP ([], [])
theorem fillP_snoc (ys : List (List Int)) (y : List Int) : fillP (ys ++ [y]) = stepP (fillP ys) y := by simp [fillP, List.foldl_append]
theorem stepB_len (B : List (List Int)) (y : List Int) : B.length ≤ (stepB B y).length ∧ (stepB B y).length ≤ B.length + 1 ∧ 0 < (stepB B y).length := by
  unfold stepB
  split
  · simp
  · rename_i h
    rw [List.length_set]
    omega
theorem fillP_lens (ys : List (List Int)) : (fillP ys).1.length ≤ ys.length ∧ (fillP ys).2.length = ys.length := by
  refine snoc_ind (P := fun ys => (fillP ys).1.length ≤ ys.length ∧ (fillP ys).2.length = ys.length) ⟨Nat.le_refl _, rfl⟩ (fun ys y ih => ?_) ys
  · rw [fillP_snoc]
    have := stepB_len (fillP ys).1 y
    simp only [stepP, List.length_append, List.length_singleton]
    omega
theorem stepB_fits {B : List (List Int)} {y : List Int} (hB : ∀ p ∈ B, p.length ≤ 103) (hy : y.length ≤ 103) : ∀ p ∈ stepB B y, p.length ≤ 103 := by
  unfold stepB
  split
  · intro p hp
    rcases List.mem_append.1 hp with hp | hp
    · exact hB p hp
    · rw [List.mem_singleton] at hp; subst hp; exact hy
  · rename_i h
    intro p hp
    rcases List.mem_or_eq_of_mem_set hp with hp | rfl
    · exact hB p hp
    · rw [List.length_append]; omega
theorem fillP_fits {ys : List (List Int)} (hy : ∀ y ∈ ys, y.length ≤ 103) : ∀ p ∈ (fillP ys).1, p.length ≤ 103 := by
  revert hy
  refine snoc_ind (P := fun ys => (∀ y ∈ ys, y.length ≤ 103) → ∀ p ∈ (fillP ys).1, p.length ≤ 103) (fun _ p hp => by cases hp) (fun ys y ih hy => ?_) ys
  rw [fillP_snoc]
  exact stepB_fits (ih (fun z hz => hy z (by simp [hz]))) (hy y (by simp))
theorem nthR_last {B : List (List Int)} {y : List Int} : nthR (B ++ [y]) B.length = y := by simp [nthR]
/-- The bodies of more rows begin with those of the first ones; the last one may have more. -/
structure Ext (a b : List (List Int)) : Prop where
  len : a.length ≤ b.length
  pre : ∀ i, i < a.length → ∃ t, nthR b i = nthR a i ++ t
  same : ∀ i, i + 1 < a.length → nthR b i = nthR a i
theorem Ext.refl (a : List (List Int)) : Ext a a := ⟨Nat.le_refl _, fun i _ => ⟨[], by simp⟩, fun i _ => rfl⟩
theorem Ext.trans {a b c : List (List Int)} (h : Ext a b) (k : Ext b c) : Ext a c where
  len := Nat.le_trans h.len k.len
  pre := fun i hi => by
    obtain ⟨t, ht⟩ := h.pre i hi
    obtain ⟨u, hu⟩ := k.pre i (by have := h.len; omega)
    exact ⟨t ++ u, by rw [hu, ht, List.append_assoc]⟩
  same := fun i hi => (k.same i (by have := h.len; omega)).trans (h.same i hi)
theorem nthR_app_lt {a b : List (List Int)} {i : Nat} (h : i < a.length) : nthR (a ++ b) i = nthR a i := by
  simp [nthR, List.getElem?_append_left h]
theorem nthR_set {a : List (List Int)} {i k : Nat} {y : List Int} (h : i < a.length) : nthR (a.set k y) i = if k = i then y else nthR a i := by
  by_cases hk : k = i
  · subst hk; simp [nthR, h]
  · simp [nthR, List.getElem?_set_ne hk, hk]
theorem Ext.step (B : List (List Int)) (y : List Int) : Ext B (stepB B y) := by
  unfold stepB
  split
  · exact ⟨by simp, fun i hi => ⟨[], by rw [nthR_app_lt hi]; simp⟩, fun i hi => nthR_app_lt (by omega)⟩
  · refine ⟨by simp, fun i hi => ?_, fun i hi => ?_⟩
    · rw [nthR_set hi]
      split
      · rename_i h; subst h; exact ⟨y, rfl⟩
      · exact ⟨[], by simp⟩
    · rw [nthR_set (by omega), if_neg (by omega)]
theorem fillP_ext (ys zs : List (List Int)) : Ext (fillP ys).1 (fillP (ys ++ zs)).1 ∧ ∃ r, (fillP (ys ++ zs)).2 = (fillP ys).2 ++ r := by
  refine snoc_ind (P := fun zs => Ext (fillP ys).1 (fillP (ys ++ zs)).1 ∧ ∃ r, (fillP (ys ++ zs)).2 = (fillP ys).2 ++ r) ⟨by rw [List.append_nil]; exact Ext.refl _, [], by simp⟩ (fun zs z ih => ?_) zs
  rw [← List.append_assoc, fillP_snoc]
  obtain ⟨h1, r, h2⟩ := ih
  exact ⟨h1.trans (Ext.step _ _), _, by rw [stepP, h2, List.append_assoc]⟩
end Go.Proofs.Ytghcnipehgjegaa.Plain
