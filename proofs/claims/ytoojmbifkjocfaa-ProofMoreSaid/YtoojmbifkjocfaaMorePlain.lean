/- Plain facts: what stands goes on standing when more is looked at. No program. -/
import Derived.Test.YtoojmbifkjocfaaRefPlain
namespace Go.Proofs.Ytoojmbifkjocfaa.Plain
open Go
set_option linter.unusedVariables false
set_option linter.unusedSimpArgs false
theorem good_le {m : Int} {L : List (Int × Bool)} {ms : List Int} (h : Stand m true L ms) {p : Int} (hp : (p, false) ∈ L) : p ≤ m := by
  obtain ⟨hi, ⟨hin, hpw, hgb⟩, hb⟩ := h
  simp only [Borne, if_true] at hb
  by_cases hc : p ≤ m
  · exact hc
  · obtain ⟨i, hil, rfl⟩ := mem_nth (hin _ hb.1)
    obtain ⟨j, hjl, rfl⟩ := mem_nth (hin _ hp)
    have hij : i < j := by
      rcases Nat.lt_trichotomy i j with h1 | h1 | h1
      · exact h1
      · subst h1; omega
      · have := inc_lt hi j i h1 hil; omega
    have h1 := hb.2 i (by omega) rfl
    have h2 := hgb _ hp rfl _ h1 rfl
    simp only at h2
    rcases Nat.lt_or_ge (i + 1) j with h3 | h3
    · have := inc_lt hi (i + 1) j h3 hjl; omega
    · obtain rfl : j = i + 1 := by omega
      have e1 := (calledAs_some hpw).2 hp
      have e2 := (calledAs_some hpw).2 h1
      rw [e1] at e2; cases e2
theorem no_good {m : Int} {L : List (Int × Bool)} {ms : List Int} (h : Stand m false L ms) (h0 : 0 < ms.length) {p : Int} (hp : (p, false) ∈ L) : False := by
  obtain ⟨hi, ⟨hin, hpw, hgb⟩, hb⟩ := h
  simp only [Borne, Bool.false_eq_true, if_false] at hb
  have h1 := hb.2 h0
  obtain ⟨j, hjl, rfl⟩ := mem_nth (hin _ hp)
  have h2 := hgb _ hp rfl _ h1 rfl
  simp only at h2
  rcases Nat.eq_zero_or_pos j with h3 | h3
  · subst h3
    have e1 := (calledAs_some hpw).2 hp
    have e2 := (calledAs_some hpw).2 h1
    rw [e1] at e2; cases e2
  · have := inc_lt hi 0 j h3 hjl; omega
theorem borne_more {m : Int} {ok : Bool} {L : List (Int × Bool)} {ms : List Int} (h : Borne m ok L ms) (p : Int × Bool) : Borne m ok (L ++ [p]) ms := by
  cases ok with
  | true =>
    simp only [Borne, if_true] at h ⊢
    exact ⟨List.mem_append_left _ h.1, fun k h1 h2 => List.mem_append_left _ (h.2 k h1 h2)⟩
  | false =>
    simp only [Borne, Bool.false_eq_true, if_false] at h ⊢
    exact ⟨h.1, fun h1 => List.mem_append_left _ (h.2 h1)⟩
theorem looks_more {L : List (Int × Bool)} {ms : List Int} (h : Looks L ms) {x : Int} {b : Bool} (hx : x ∈ ms) (hn : ∀ p ∈ L, p.1 ≠ x) (hb : b = true → ∀ p ∈ L, p.2 = false → p.1 ≤ x) (hg : b = false → ∀ p ∈ L, p.2 = true → x ≤ p.1) : Looks (L ++ [(x, b)]) ms := by
  refine ⟨fun p hp => ?_, pw_snoc h.2.1 hn, fun p hp hpb q hq hqb => ?_⟩
  · rcases mem_snoc hp with hp | rfl
    · exact h.1 p hp
    · exact hx
  · rcases mem_snoc hp with hp | rfl
    · rcases mem_snoc hq with hq | rfl
      · exact h.2.2 p hp hpb q hq hqb
      · exact hb hqb p hp hpb
    · rcases mem_snoc hq with hq | rfl
      · exact hg hpb q hq hqb
      · rw [hpb] at hqb; cases hqb
theorem more_stands {m : Int} {ok : Bool} {L : List (Int × Bool)} {ms : List Int} (hs : standB m ok L ms = true) {x : Int} (hx : x ∈ ms) (hn : ∀ p ∈ L, p.1 ≠ x) {b : Bool} (hb : b = (!ok || decide (m < x))) : standB m ok (L ++ [(x, b)]) ms = true := by
  have h := of_decide_eq_true hs
  obtain ⟨hi, hl, hbo⟩ := h
  have h0 : 0 < ms.length := by obtain ⟨i, hi, _⟩ := mem_nth hx; omega
  refine decide_eq_true ⟨hi, looks_more hl hx hn (fun e p hp hpb => ?_) (fun e p hp hpb => ?_), borne_more hbo _⟩
  · cases ok with
    | true =>
      have h1 : m < x := by simpa [e] using hb.symm
      have h2 := good_le (of_decide_eq_true hs) (p := p.1) (by rw [← hpb]; exact hp)
      omega
    | false => exact (no_good (of_decide_eq_true hs) h0 (p := p.1) (by rw [← hpb]; exact hp)).elim
  · cases ok with
    | true =>
      have h1 : ¬ m < x := by simpa [e] using hb.symm
      have hbo' := hbo
      simp only [Borne, if_true] at hbo'
      have h2 := hl.2.2 _ hbo'.1 rfl p hp hpb
      simp only at h2
      omega
    | false => simp [e] at hb
theorem less_falls {m : Int} {ok : Bool} {L : List (Int × Bool)} {ms : List Int} (hs : standB m ok L ms = true) {x : Int} (hx : x ∈ ms) (hn : ∀ p ∈ L, p.1 ≠ x) {b : Bool} (hb : b = !(!ok || decide (m < x))) : standB m ok (L ++ [(x, b)]) ms = false := by
  have h := of_decide_eq_true hs
  obtain ⟨hi, hl, hbo⟩ := h
  refine stand_no_looks (fun hm => ?_)
  obtain ⟨j, hjl, rfl⟩ := mem_nth hx
  cases ok with
  | true =>
    simp only [Borne, if_true] at hbo
    obtain ⟨i, hil, rfl⟩ := mem_nth (hl.1 _ hbo.1)
    by_cases hlt : nth ms i < nth ms j
    · have hbf : b = false := by simpa [hlt] using hb
      subst hbf
      have hij : i < j := by
        rcases Nat.lt_trichotomy i j with h1 | h1 | h1
        · exact h1
        · subst h1; omega
        · have := inc_lt hi j i h1 hil; omega
      have h1 := hbo.2 i (by omega) rfl
      have h2 := hm.2.2 (nth ms j, false) (by simp) rfl _ (List.mem_append_left _ h1) rfl
      simp only at h2
      rcases Nat.lt_or_ge (i + 1) j with h3 | h3
      · have := inc_lt hi (i + 1) j h3 hjl; omega
      · obtain rfl : j = i + 1 := by omega
        exact hn _ h1 rfl
    · have hbf : b = true := by simpa [hlt] using hb
      subst hbf
      have h2 := hm.2.2 _ (List.mem_append_left _ hbo.1) rfl (nth ms j, true) (by simp) rfl
      simp only at h2
      have : nth ms i = nth ms j := by omega
      exact hn _ hbo.1 this
  | false =>
    have hbf : b = false := by simpa using hb
    subst hbf
    simp only [Borne, Bool.false_eq_true, if_false] at hbo
    have h1 := hbo.2 (by omega)
    have h2 := hm.2.2 (nth ms j, false) (by simp) rfl _ (List.mem_append_left _ h1) rfl
    simp only at h2
    rcases Nat.eq_zero_or_pos j with h3 | h3
    · subst h3; exact hn _ h1 rfl
    · have := inc_lt hi 0 j h3 hjl; omega
end Go.Proofs.Ytoojmbifkjocfaa.Plain
