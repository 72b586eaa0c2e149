/- Plain facts: what the reference of layer 53 asks of looks, place by place. No program. -/
import Derived.Test.YtoojmbifkjocfaaProofPlain
namespace Go.Proofs.Ytoojmbifkjocfaa.Plain
open Go
set_option linter.unusedVariables false
set_option linter.unusedSimpArgs false
def gd (L : List (Int × Bool)) (i : Nat) : Int × Bool := L.getD i (0, false)
theorem gd_eq {L : List (Int × Bool)} {i : Nat} (h : i < L.length) : gd L i = L[i] := by simp [gd, h]
theorem gd_mem {L : List (Int × Bool)} {i : Nat} (h : i < L.length) : gd L i ∈ L := by rw [gd_eq h]; exact List.getElem_mem h
/-- Two looks get on. -/
def Ok2 (L : List (Int × Bool)) (i k : Nat) : Prop := ¬ (k ≠ i ∧ (gd L k).1 = (gd L i).1) ∧ ¬ ((gd L k).2 = true ∧ (gd L i).2 = false ∧ (gd L k).1 < (gd L i).1)
theorem looks_of_idx {L : List (Int × Bool)} {ms : List Int} (h : ∀ i, i < L.length → (gd L i).1 ∈ ms ∧ ∀ k, k < L.length → Ok2 L i k) : Looks L ms := by
  refine ⟨fun p hp => ?_, ?_, fun p hp hpb q hq hqb => ?_⟩
  · obtain ⟨i, hi, rfl⟩ := List.getElem_of_mem hp
    rw [← gd_eq hi]; exact (h i hi).1
  · rw [List.pairwise_iff_getElem]
    intro i j hi hj hij he
    refine ((h i hi).2 j hj).1 ⟨by omega, ?_⟩
    rw [gd_eq hi, gd_eq hj]; exact he.symm
  · obtain ⟨i, hi, rfl⟩ := List.getElem_of_mem hp
    obtain ⟨k, hk, rfl⟩ := List.getElem_of_mem hq
    by_cases hc : L[i].1 ≤ L[k].1
    · exact hc
    · refine absurd ?_ ((h i hi).2 k hk).2
      rw [gd_eq hi, gd_eq hk]
      exact ⟨hqb, hpb, by omega⟩
theorem looks_mem {L : List (Int × Bool)} {ms : List Int} (h : Looks L ms) {i : Nat} (hi : i < L.length) : (gd L i).1 ∈ ms := h.1 _ (gd_mem hi)
theorem looks_ok2 {L : List (Int × Bool)} {ms : List Int} (h : Looks L ms) {i k : Nat} (hi : i < L.length) (hk : k < L.length) : Ok2 L i k := by
  refine ⟨fun hc => ?_, fun hc => ?_⟩
  · have hp := List.pairwise_iff_getElem.1 h.2.1
    rw [gd_eq hi, gd_eq hk] at hc
    rcases Nat.lt_or_ge i k with h1 | h1
    · exact hp i k hi hk h1 hc.2.symm
    · exact hp k i hk hi (by omega) hc.2
  · have := h.2.2 _ (gd_mem hi) hc.2.1 _ (gd_mem hk) hc.1
    omega
def callNo : Option Bool → Int
  | none => 0
  | some true => 2
  | some false => 1
theorem called_here {L : List (Int × Bool)} {i : Nat} {x : Int} {b : Bool} (hi : i < L.length) (he : gd L i = (x, b)) (hn : calledAs (L.take i) x = none) : calledAs L x = some b := by
  have h1 : L = L.take i ++ L.drop i := (List.take_append_drop i L).symm
  rw [calledAs, h1, List.find?_append]
  have h2 : (L.take i).find? (fun p => p.1 == x) = none := by
    simp only [calledAs, Option.map_eq_none_iff] at hn; exact hn
  rw [h2, List.drop_eq_getElem_cons hi, ← gd_eq hi, he]
  simp
theorem called_next {L : List (Int × Bool)} {i : Nat} {x : Int} (hi : i < L.length) (he : ¬ (gd L i).1 = x) (hn : calledAs (L.take i) x = none) : calledAs (L.take (i + 1)) x = none := by
  rw [calledAs_none] at hn ⊢
  intro p hp
  rw [List.take_succ_eq_append_getElem hi] at hp
  rcases List.mem_append.1 hp with h | h
  · exact hn p h
  · have : p = gd L i := by rw [gd_eq hi]; simpa using h
    rw [this]; exact he
theorem callNo_two {o : Option Bool} : callNo o = 2 ↔ o = some true := by
  rcases o with _ | _ | _ <;> simp [callNo]
theorem callNo_one {o : Option Bool} : callNo o = 1 ↔ o = some false := by
  rcases o with _ | _ | _ <;> simp [callNo]
end Go.Proofs.Ytoojmbifkjocfaa.Plain
