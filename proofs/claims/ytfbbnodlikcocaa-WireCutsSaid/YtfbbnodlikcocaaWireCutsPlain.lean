/- Plain facts: a frame that is cut. No program. -/
import Derived.Test.YtfbbnodlikcocaaPlain
namespace Go.Proofs.Ytfbbnodlikcocaa.Plain
open Go
set_option linter.unusedVariables false
set_option linter.unusedSimpArgs false
/-- Where the i-th part begins. -/
def endAt (l : List (List Int)) (i : Nat) : Nat := (frm (l.take i)).length
def endsI (l : List (List Int)) (i : Nat) : List Int := (List.range (i + 1)).map (fun j => (endAt l j : Int))
theorem endsI_len (l : List (List Int)) (i : Nat) : (endsI l i).length = i + 1 := by simp [endsI]
theorem endsI_nth (l : List (List Int)) {i j : Nat} (h : j ≤ i) : nth (endsI l i) j = (endAt l j : Int) := by
  rw [nth_eq (by rw [endsI_len]; omega)]; simp [endsI]
theorem endsI_snoc (l : List (List Int)) (i : Nat) : endsI l (i + 1) = endsI l i ++ [(endAt l (i + 1) : Int)] := by
  simp only [endsI]
  rw [List.range_succ (n := i + 1), List.map_append]
  rfl
theorem endAt_zero (l : List (List Int)) : endAt l 0 = 0 := by simp [endAt, frm]
theorem endsI_zero (l : List (List Int)) : endsI l 0 = [0] := by simp [endsI, endAt_zero]
theorem endAt_all (l : List (List Int)) : endAt l l.length = (frm l).length := by rw [endAt, List.take_length]
theorem endAt_succ {l : List (List Int)} {i : Nat} (h : i < l.length) : endAt l (i + 1) = endAt l i + 2 + (nthR l i).length := by
  rw [endAt, frm_snoc h, List.length_append, prt_len, endAt]; omega
theorem endAt_lt {l : List (List Int)} {i : Nat} : ∀ {j : Nat}, i < j → j ≤ l.length → endAt l i < endAt l j
  | 0, h, _ => by omega
  | j + 1, h, hj => by
    rw [endAt_succ (by omega)]
    rcases Nat.lt_or_ge i j with h1 | h1
    · have := endAt_lt (l := l) h1 (by omega); omega
    · obtain rfl : i = j := by omega
      omega
theorem endAt_le {l : List (List Int)} {i : Nat} (h : i ≤ l.length) : endAt l i ≤ (frm l).length := by
  rw [← endAt_all]
  rcases Nat.lt_or_ge i l.length with h1 | h1
  · exact Nat.le_of_lt (endAt_lt h1 (Nat.le_refl _))
  · obtain rfl : i = l.length := by omega
    exact Nat.le_refl _
theorem endAt_inj {l : List (List Int)} {i j : Nat} (hi : i ≤ l.length) (hj : j ≤ l.length) (h : endAt l i = endAt l j) : i = j := by
  rcases Nat.lt_trichotomy i j with h1 | h1 | h1
  · have := endAt_lt (l := l) h1 hj; omega
  · exact h1
  · have := endAt_lt (l := l) h1 hi; omega
theorem cut_end (l : List (List Int)) (j : Nat) : (frm l).take (endAt l j) = frm (l.take j) := by
  conv => lhs; rw [← List.take_append_drop j l, frm_append]
  have e : endAt (l.take j ++ l.drop j) j = (frm (l.take j)).length := by rw [List.take_append_drop]; rfl
  rw [e, List.take_left]
theorem endAt_cons (p : List Int) (l : List (List Int)) (j : Nat) : endAt (p :: l) (j + 1) = 2 + p.length + endAt l j := by
  rw [endAt, List.take_succ_cons, frm_cons, List.length_append, prt_len]; rfl
theorem dec_cut : ∀ {l : List (List Int)} {k f : Nat}, (∀ p ∈ l, p.length ≤ 65535) → k ≤ (frm l).length → (∀ j, j ≤ l.length → endAt l j ≠ k) → ((frm l).take k).length ≤ f → dec f ((frm l).take k) = none
  | [], k, f, _, hk, h, _ => by
    have h0 := h 0 (Nat.le_refl _)
    rw [endAt_zero] at h0
    have : (frm []).length = 0 := rfl
    omega
  | p :: l, k, f, hp, hk, h, hf => by
    have hpl := hp p (by simp)
    have h0 := h 0 (Nat.zero_le _)
    rw [endAt_zero] at h0
    rw [frm_cons] at hk hf ⊢
    have hlen : (prt p ++ frm l).length = 2 + p.length + (frm l).length := by rw [List.length_append, prt_len]
    have hl : ((prt p ++ frm l).take k).length = k := by rw [List.length_take]; omega
    by_cases h2 : k < 2
    · exact dec_short (by omega) (by omega) hf
    · have hv : val (((prt p ++ frm l).take k).take 2) = p.length := by
        rw [List.take_take, Nat.min_eq_left (by omega)]; exact (prt_cut hpl).1
      by_cases hlong : k < 2 + p.length
      · refine dec_long (by omega) ?_ hf
        rw [hv, hl]; omega
      · obtain ⟨g, hg, hg2, hg3⟩ := dec_step (b := (prt p ++ frm l).take k) (m := p.length) (by omega) hv (by omega) hf
        have hd : ((prt p ++ frm l).take k).drop (2 + p.length) = (frm l).take (k - (2 + p.length)) := by
          rw [List.drop_take, (prt_cut hpl).2.2]
        rw [hg3, hd, dec_cut (fun q hq => hp q (by simp [hq])) (by omega) ?_ (by rw [hd] at hg2; exact hg2)]
        · rfl
        · intro j hj he
          refine h (j + 1) (by simp; omega) ?_
          rw [endAt_cons]; omega
theorem partsS_cut {l : List (List Int)} {k : Nat} (hp : ∀ p ∈ l, p.length ≤ 65535) (hk : k ≤ (frm l).length) (h : ∀ j, j ≤ l.length → endAt l j ≠ k) : partsS ((frm l).take k) = ([], false) := partsS_none (dec_cut hp hk h (Nat.le_refl _))
end Go.Proofs.Ytfbbnodlikcocaa.Plain
