/- Plain facts: what stands before moments. No program. -/
import Derived.Test.YtoojmbifkjocfaaPlain
namespace Go.Proofs.Ytoojmbifkjocfaa.Plain
open Go
set_option linter.unusedVariables false
set_option linter.unusedSimpArgs false
/-- Do moments rise? (None do.) -/
abbrev Inc (ms : List Int) : Prop := ∀ i, i < ms.length - 1 → nth ms i < nth ms (i + 1)
/-- What was looked at lies among the moments, each once; no good one is above a bad one. -/
abbrev Looks (L : List (Int × Bool)) (ms : List Int) : Prop :=
  (∀ p ∈ L, p.1 ∈ ms) ∧ L.Pairwise (fun p q => p.1 ≠ q.1) ∧ (∀ p ∈ L, p.2 = false → ∀ q ∈ L, q.2 = true → p.1 ≤ q.1)
/-- The answer is borne out. -/
abbrev Borne (m : Int) (ok : Bool) (L : List (Int × Bool)) (ms : List Int) : Prop :=
  if ok = true then (m, false) ∈ L ∧ (∀ k, k < ms.length - 1 → nth ms k = m → (nth ms (k + 1), true) ∈ L) else m = 0 ∧ (0 < ms.length → (nth ms 0, true) ∈ L)
abbrev Stand (m : Int) (ok : Bool) (L : List (Int × Bool)) (ms : List Int) : Prop := Inc ms ∧ Looks L ms ∧ Borne m ok L ms
def standB (m : Int) (ok : Bool) (L : List (Int × Bool)) (ms : List Int) : Bool := decide (Stand m ok L ms)
theorem stand_awake : standB 5 true [(5, false), (9, true)] [3, 5, 9] = true := by decide +kernel
theorem stand_awake2 : standB 5 true [(5, false)] [3, 5, 9] = false := by decide +kernel
theorem inc_lt {ms : List Int} (h : Inc ms) : ∀ i j, i < j → j < ms.length → nth ms i < nth ms j := by
  intro i j hij hj
  obtain ⟨d, rfl⟩ : ∃ d, j = i + 1 + d := ⟨j - (i + 1), by omega⟩
  induction d with
  | zero => exact h i (by omega)
  | succ d ih =>
    have h1 := ih (by omega) (by omega)
    have h2 := h (i + 1 + d) (by omega)
    have : i + 1 + (d + 1) = i + 1 + d + 1 := by omega
    rw [this]; omega
theorem inc_inj {ms : List Int} (h : Inc ms) {i j : Nat} (hi : i < ms.length) (hj : j < ms.length) (he : nth ms i = nth ms j) : i = j := by
  rcases Nat.lt_trichotomy i j with h1 | h1 | h1
  · have := inc_lt h i j h1 hj; omega
  · exact h1
  · have := inc_lt h j i h1 hi; omega
theorem mem_nth {ms : List Int} {x : Int} (h : x ∈ ms) : ∃ i, i < ms.length ∧ nth ms i = x := by
  obtain ⟨i, hi, rfl⟩ := List.getElem_of_mem h
  exact ⟨i, hi, nth_eq hi⟩
/-- What a moment was called. -/
def calledAs (L : List (Int × Bool)) (x : Int) : Option Bool := (L.find? (fun p => p.1 == x)).map (·.2)
theorem calledAs_some {L : List (Int × Bool)} (h : L.Pairwise (fun p q => p.1 ≠ q.1)) {x : Int} {b : Bool} : calledAs L x = some b ↔ (x, b) ∈ L := by
  induction L with
  | nil => simp [calledAs]
  | cons p L ih =>
    obtain ⟨y, c⟩ := p
    have hp := List.pairwise_cons.1 h
    rw [calledAs, List.find?_cons]
    by_cases hy : y = x
    · subst hy
      simp only [BEq.rfl, Option.map_some, Option.some.injEq, List.mem_cons, Prod.mk.injEq, true_and]
      constructor
      · rintro rfl; exact .inl rfl
      · rintro (rfl | h2)
        · rfl
        · exact absurd rfl (hp.1 (y, b) h2)
    · have hb : (y == x) = false := by simpa using hy
      rw [show (((y, c) : Int × Bool).1 == x) = false from hb]
      have := ih hp.2
      rw [calledAs] at this
      simp only [this, List.mem_cons, Prod.mk.injEq]
      constructor
      · intro h2; exact .inr h2
      · rintro (⟨h2, _⟩ | h2)
        · exact absurd h2.symm hy
        · exact h2
theorem calledAs_none {L : List (Int × Bool)} {x : Int} : calledAs L x = none ↔ ∀ p ∈ L, p.1 ≠ x := by
  simp [calledAs, List.find?_eq_none]
theorem calledAs_snoc {L : List (Int × Bool)} {p : Int × Bool} (hn : ∀ q ∈ L, q.1 ≠ p.1) (x : Int) : calledAs (L ++ [p]) x = if x = p.1 then some p.2 else calledAs L x := by
  rw [calledAs, List.find?_append]
  by_cases hx : x = p.1
  · rw [if_pos hx]
    have : L.find? (fun q => q.1 == x) = none := by
      rw [List.find?_eq_none]; intro q hq; simpa [hx] using hn q hq
    rw [this]
    simp [hx]
  · rw [if_neg hx]
    have : (p.1 == x) = false := by simpa using fun h => hx h.symm
    rw [List.find?_cons, this]
    simp [calledAs]
theorem stand_no_inc {m : Int} {ok : Bool} {L : List (Int × Bool)} {ms : List Int} (h : ¬ Inc ms) : standB m ok L ms = false := decide_eq_false fun hs => h hs.1
theorem stand_no_looks {m : Int} {ok : Bool} {L : List (Int × Bool)} {ms : List Int} (h : ¬ Looks L ms) : standB m ok L ms = false := decide_eq_false fun hs => h hs.2.1
theorem stand_borne {m : Int} {ok : Bool} {L : List (Int × Bool)} {ms : List Int} (hi : Inc ms) (hl : Looks L ms) : standB m ok L ms = decide (Borne m ok L ms) :=
  decide_eq_decide.2 ⟨fun h => h.2.2, fun h => ⟨hi, hl, h⟩⟩
/-- What Check has seen of the first looks. -/
structure Seen (P : List (Int × Bool)) (ms : List Int) (g l : Int) (sm an : Bool) : Prop where
  inn : ∀ p ∈ P, p.1 ∈ ms
  pw : P.Pairwise (fun p q => p.1 ≠ q.1)
  gd : ∀ p ∈ P, p.2 = false → p.1 ≤ g ∧ sm = true
  gm : sm = true → (g, false) ∈ P
  g0 : sm = false → g = 0
  bd : ∀ p ∈ P, p.2 = true → l ≤ p.1 ∧ an = true
  bm : an = true → (l, true) ∈ P
  l0 : an = false → l = 18446744073709551615
theorem Seen.start (ms : List Int) : Seen [] ms 0 18446744073709551615 false false :=
  ⟨fun _ h => absurd h List.not_mem_nil, List.Pairwise.nil, fun _ h => absurd h List.not_mem_nil, fun h => absurd h Bool.false_ne_true, fun _ => rfl, fun _ h => absurd h List.not_mem_nil, fun h => absurd h Bool.false_ne_true, fun _ => rfl⟩
theorem pw_snoc {P : List (Int × Bool)} {x : Int} {b : Bool} (h : P.Pairwise (fun p q => p.1 ≠ q.1)) (hx : ∀ p ∈ P, p.1 ≠ x) : (P ++ [(x, b)]).Pairwise (fun p q => p.1 ≠ q.1) := by
  rw [List.pairwise_append]
  refine ⟨h, by simp, fun p hp q hq => ?_⟩
  have : q = (x, b) := by simpa using hq
  subst this
  exact hx p hp
theorem mem_snoc {P : List (Int × Bool)} {x : Int} {b : Bool} {p : Int × Bool} (h : p ∈ P ++ [(x, b)]) : p ∈ P ∨ p = (x, b) := by
  rcases List.mem_append.1 h with h | h
  · exact .inl h
  · exact .inr (by simpa using h)
theorem Seen.good {P : List (Int × Bool)} {ms : List Int} {g l : Int} {sm an : Bool} (h : Seen P ms g l sm an) {x : Int} (hx : ∀ p ∈ P, p.1 ≠ x) (hm : x ∈ ms) (h0 : 0 ≤ x) : Seen (P ++ [(x, false)]) ms (max g x) l true an where
  inn := fun p hp => (mem_snoc hp).elim (h.inn p) (fun e => by subst e; exact hm)
  pw := pw_snoc h.pw hx
  gd := fun p hp hb => ⟨by
    rcases mem_snoc hp with hp | rfl
    · have := (h.gd p hp hb).1; omega
    · show x ≤ max g x; omega, rfl⟩
  gm := fun _ => by
    by_cases hc : g ≤ x
    · have : max g x = x := by omega
      rw [this]; simp
    · have : max g x = g := by omega
      rw [this]
      cases sm with
      | true => exact List.mem_append_left _ (h.gm rfl)
      | false => have := h.g0 rfl; omega
  g0 := fun h => by cases h
  bd := fun p hp hb => by
    rcases mem_snoc hp with hp | rfl
    · exact h.bd p hp hb
    · cases hb
  bm := fun ha => List.mem_append_left _ (h.bm ha)
  l0 := h.l0
theorem Seen.bad {P : List (Int × Bool)} {ms : List Int} {g l : Int} {sm an : Bool} (h : Seen P ms g l sm an) {x : Int} (hx : ∀ p ∈ P, p.1 ≠ x) (hm : x ∈ ms) (h0 : x ≤ 18446744073709551615) : Seen (P ++ [(x, true)]) ms g (min l x) sm true where
  inn := fun p hp => (mem_snoc hp).elim (h.inn p) (fun e => by subst e; exact hm)
  pw := pw_snoc h.pw hx
  bd := fun p hp hb => ⟨by
    rcases mem_snoc hp with hp | rfl
    · have := (h.bd p hp hb).1; omega
    · show min l x ≤ x; omega, rfl⟩
  bm := fun _ => by
    by_cases hc : x ≤ l
    · have : min l x = x := by omega
      rw [this]; simp
    · have : min l x = l := by omega
      rw [this]
      cases an with
      | true => exact List.mem_append_left _ (h.bm rfl)
      | false => have := h.l0 rfl; omega
  l0 := fun h => by cases h
  gd := fun p hp hb => by
    rcases mem_snoc hp with hp | rfl
    · exact h.gd p hp hb
    · cases hb
  gm := fun ha => List.mem_append_left _ (h.gm ha)
  g0 := h.g0
theorem Seen.looks {P : List (Int × Bool)} {ms : List Int} {g l : Int} {sm an : Bool} (h : Seen P ms g l sm an) (hn : ¬ (sm = true ∧ an = true ∧ l < g)) : Looks P ms :=
  ⟨h.inn, h.pw, fun p hp hpb q hq hqb => by
    have h1 := h.gd p hp hpb
    have h2 := h.bd q hq hqb
    by_cases hlg : l < g
    · exact absurd ⟨h1.2, h2.2, hlg⟩ hn
    · omega⟩
theorem Seen.not {P : List (Int × Bool)} {ms : List Int} {g l : Int} {sm an : Bool} (h : Seen P ms g l sm an) (h1 : sm = true) (h2 : an = true) (h3 : l < g) : ¬ Looks P ms := fun hl => by
  have := hl.2.2 _ (h.gm h1) rfl _ (h.bm h2) rfl
  simp only at this
  omega
theorem looks_twice {L : List (Int × Bool)} {ms : List Int} {k : Nat} (hk : k < L.length) {p : Int × Bool} (hp : L[k] = p) {b : Bool} (hc : (p.1, b) ∈ L.take k) : ¬ Looks L ms := fun hl => by
  have h := hl.2.1
  rw [← List.take_append_drop k L, List.pairwise_append] at h
  refine h.2.2 _ hc p ?_ rfl
  rw [List.drop_eq_getElem_cons hk, hp]
  exact List.mem_cons_self
theorem borne_none {m : Int} {L : List (Int × Bool)} {ms : List Int} (h : (m, false) ∉ L) : decide (Borne m true L ms) = false := decide_eq_false fun hb => h (by simp only [Borne, if_true] at hb; exact hb.1)
theorem borne_yes {m : Int} {L : List (Int × Bool)} {ms : List Int} (hi : Inc ms) {q : Nat} (hq : q < ms.length) (he : nth ms q = m) (h : (m, false) ∈ L) : decide (Borne m true L ms) = decide (q + 1 < ms.length → (nth ms (q + 1), true) ∈ L) := decide_eq_decide.2 (by
  simp only [Borne, if_true]
  constructor
  · intro hb hl; exact hb.2 q (by omega) he
  · intro hb
    refine ⟨h, fun k hk hkm => ?_⟩
    have : k = q := inc_inj hi (by omega) hq (by rw [hkm, he])
    subst this
    exact hb (by omega))
theorem borne_off {m : Int} {L : List (Int × Bool)} {ms : List Int} : decide (Borne m false L ms) = decide (m = 0 ∧ (0 < ms.length → (nth ms 0, true) ∈ L)) := by simp [Borne]
theorem getD_bad {L : List (Int × Bool)} (h : L.Pairwise (fun p q => p.1 ≠ q.1)) (x : Int) : (calledAs L x).getD false = decide ((x, true) ∈ L) := by
  cases hc : calledAs L x with
  | none =>
    have := calledAs_none.1 hc
    rw [decide_eq_false (fun hm => this _ hm rfl)]; rfl
  | some b =>
    cases b with
    | true => rw [decide_eq_true ((calledAs_some h).1 hc)]; rfl
    | false =>
      rw [decide_eq_false (fun hm => by have := (calledAs_some h).2 hm; rw [hc] at this; cases this)]; rfl
/-- What was looked at bears out one answer at the most. -/
theorem stand_unique {m m' : Int} {ok ok' : Bool} {L : List (Int × Bool)} {ms : List Int} (h : Stand m ok L ms) (h' : Stand m' ok' L ms) : m = m' ∧ ok = ok' := by
  obtain ⟨hi, ⟨hin, hpw, hgb⟩, hb⟩ := h
  obtain ⟨_, _, hb'⟩ := h'
  have two : ∀ x, (x, false) ∈ L → (x, true) ∈ L → False := fun x h1 h2 => by
    have e1 := (calledAs_some hpw).2 h1
    have e2 := (calledAs_some hpw).2 h2
    rw [e1] at e2; cases e2
  have lt : ∀ a b : Int, (a, false) ∈ L → (b, false) ∈ L → (∀ k, k < ms.length - 1 → nth ms k = a → (nth ms (k + 1), true) ∈ L) → ¬ a < b := fun a b ha hb hn hlt => by
    obtain ⟨i, hil, rfl⟩ := mem_nth (hin _ ha)
    obtain ⟨j, hjl, rfl⟩ := mem_nth (hin _ hb)
    have hij : i < j := by
      rcases Nat.lt_trichotomy i j with h1 | h1 | h1
      · exact h1
      · subst h1; exact absurd hlt (Int.lt_irrefl _)
      · have := inc_lt hi j i h1 hil; omega
    have h1 := hn i (by omega) rfl
    have h2 := hgb _ hb rfl _ h1 rfl
    simp only at h2
    rcases Nat.lt_or_ge (i + 1) j with h3 | h3
    · have := inc_lt hi (i + 1) j h3 hjl; omega
    · obtain rfl : j = i + 1 := by omega
      exact two _ hb h1
  have mix : ∀ a : Int, (a, false) ∈ L → (0 < ms.length → (nth ms 0, true) ∈ L) → False := fun a ha h0 => by
    obtain ⟨i, hil, rfl⟩ := mem_nth (hin _ ha)
    have h1 := h0 (by omega)
    have h2 := hgb _ ha rfl _ h1 rfl
    simp only at h2
    rcases Nat.eq_zero_or_pos i with h3 | h3
    · subst h3; exact two _ ha h1
    · have := inc_lt hi 0 i h3 hil; omega
  cases ok with
  | true =>
    simp only [Borne, if_true] at hb
    cases ok' with
    | true =>
      simp only [Borne, if_true] at hb'
      have h1 := lt m m' hb.1 hb'.1 hb.2
      have h2 := lt m' m hb'.1 hb.1 hb'.2
      exact ⟨by omega, rfl⟩
    | false =>
      simp only [Borne, Bool.false_eq_true, if_false] at hb'
      exact (mix m hb.1 hb'.2).elim
  | false =>
    simp only [Borne, Bool.false_eq_true, if_false] at hb
    cases ok' with
    | true =>
      simp only [Borne, if_true] at hb'
      exact (mix m' hb'.1 hb.2).elim
    | false =>
      simp only [Borne, Bool.false_eq_true, if_false] at hb'
      exact ⟨by omega, rfl⟩
theorem stand_lies {m m' : Int} {ok ok' : Bool} {L : List (Int × Bool)} {ms : List Int} (h : standB m ok L ms = true) (hne : ¬ (m' = m ∧ ok' = ok)) : standB m' ok' L ms = false :=
  decide_eq_false fun h' => hne (stand_unique h' (of_decide_eq_true h))
/-- The last one below n, of the first i. -/
def lastG (ms : List Int) (n : Int) : Nat → Int × Bool
  | 0 => (0, false)
  | i + 1 => if nth ms i < n then (nth ms i, true) else lastG ms n i
theorem lastG_none {ms : List Int} {n : Int} : ∀ {i : Nat}, (∀ j, j < i → n ≤ nth ms j) → lastG ms n i = (0, false)
  | 0, _ => rfl
  | i + 1, h => by
    rw [lastG, if_neg (by have := h i (by omega); omega)]
    exact lastG_none (fun j hj => h j (by omega))
theorem lastG_some {ms : List Int} {n : Int} {q : Nat} (hq : nth ms q < n) : ∀ {i : Nat}, q < i → (∀ j, q < j → j < i → n ≤ nth ms j) → lastG ms n i = (nth ms q, true)
  | 0, h, _ => by omega
  | i + 1, h, hj => by
    rw [lastG]
    by_cases hi : q = i
    · subst hi; rw [if_pos hq]
    · rw [if_neg (by have := hj i (by omega) (by omega); omega)]
      exact lastG_some hq (by omega) (fun j h1 h2 => hj j h1 (by omega))
theorem stand_true {m : Int} {ok : Bool} {L : List (Int × Bool)} {ms : List Int} {n : Int} (h : standB m ok L ms = true) (ha : ∀ p ∈ L, p.2 = decide (n ≤ p.1)) : lastG ms n ms.length = (m, ok) := by
  obtain ⟨hi, ⟨hin, hpw, hgb⟩, hb⟩ := of_decide_eq_true h
  cases ok with
  | true =>
    simp only [Borne, if_true] at hb
    obtain ⟨q, hq, rfl⟩ := mem_nth (hin _ hb.1)
    have h1 : ¬ n ≤ nth ms q := of_decide_eq_false (ha _ hb.1).symm
    refine lastG_some (by omega) hq (fun j hj hjl => ?_)
    have h2 := hb.2 q (by omega) rfl
    have h3 : n ≤ nth ms (q + 1) := of_decide_eq_true (ha _ h2).symm
    rcases Nat.lt_or_ge (q + 1) j with h4 | h4
    · have := inc_lt hi (q + 1) j h4 hjl; omega
    · obtain rfl : j = q + 1 := by omega
      exact h3
  | false =>
    simp only [Borne, Bool.false_eq_true, if_false] at hb
    obtain ⟨rfl, hb⟩ := hb
    refine lastG_none (fun j hj => ?_)
    have h3 : n ≤ nth ms 0 := of_decide_eq_true (ha _ (hb (by omega))).symm
    rcases Nat.eq_zero_or_pos j with h4 | h4
    · subst h4; exact h3
    · have := inc_lt hi 0 j h4 hj; omega
end Go.Proofs.Ytoojmbifkjocfaa.Plain
