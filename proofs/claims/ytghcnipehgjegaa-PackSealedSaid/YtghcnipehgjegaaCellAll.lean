/- All cells' bytes, one behind the other, in plain Lean. No program. -/
import Derived.Test.YtghcnipehgjegaaCellCode
namespace Go.Proofs.Ytghcnipehgjegaa.Plain
open Go
/-- All cells' bytes, one behind the other. -/
def encAll (l : List Cel) : List Int := (l.map encS).flatten
def gdC (l : List Cel) (i : Nat) : Cel := l.getD i cel0
theorem encAll_snoc {l : List Cel} {i : Nat} (h : i < l.length) : encAll (l.take (i + 1)) = encAll (l.take i) ++ encS (gdC l i) := by
  rw [List.take_succ_eq_append_getElem h, encAll, List.map_append, List.flatten_append]
  simp [encAll, gdC, h]
theorem encAll_drop {l : List Cel} {i : Nat} (h : i < l.length) : encAll (l.drop i) = encS (gdC l i) ++ encAll (l.drop (i + 1)) := by
  have hg : gdC l i = l[i] := by simp [gdC, h]
  rw [List.drop_eq_getElem_cons h, hg]
  simp only [encAll, List.map_cons, List.flatten_cons]
theorem gdC_mem {l : List Cel} {i : Nat} (h : i < l.length) : gdC l i ∈ l := by
  have : gdC l i = l[i] := by simp [gdC, h]
  rw [this]; exact List.getElem_mem h
theorem encAll_byt {l : List Cel} (h : ∀ x ∈ l, Byt x.body) : Byt (encAll l) := by
  intro z hz
  obtain ⟨y, hy, hz⟩ := List.mem_flatten.1 hz
  obtain ⟨x, hx, rfl⟩ := List.mem_map.1 hy
  exact Byt.encS (h x hx) z hz
theorem encAll_len {l : List Cel} (h : ∀ x ∈ l, CelWf x ∧ rightB x = true) : (encAll l).length ≤ l.length * 46 := by
  induction l with
  | nil => simp [encAll]
  | cons x l ih =>
    have h1 := encS_len x (h x (by simp)).1 (h x (by simp)).2
    have h2 := ih (fun y hy => h y (by simp [hy]))
    simp only [encAll, List.map_cons, List.flatten_cons, List.length_append, List.length_cons] at h2 ⊢
    omega
end Go.Proofs.Ytghcnipehgjegaa.Plain
