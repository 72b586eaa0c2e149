/- What erewhileref01.Same answers. Conditions stand in each statement. -/
import Derived.Test.YtghcnipehgjegaaBytes
import Derived.Test.YtghcnipehgjegaaPlain
namespace Go.Proofs.Ytghcnipehgjegaa.Wire
open Go.RowKit Go.Proofs.YtghcnipehgjegaaW.PrintWords Go.Proofs.YtghcnipehgjegaaW.PrintLast Go.Proofs.YtghcnipehgjegaaW.PrintMore Go.Proofs.Ytghcnipehgjegaa.Kit Go.Proofs.Ytghcnipehgjegaa.Plain
set_option linter.unusedVariables false
set_option linter.unusedSimpArgs false
set_option maxHeartbeats 400000 in
theorem same_any (A : Option Addr) (n c : Nat) (l : List Int) (A' : Option Addr) (n' c' : Nat) (l' : List Int) (w : World) (hr : RdN w A n l) (hr' : RdN w A' n' l') :
    Calls Try.prog 12 #[.slice A n c, .slice A' n' c'] w fun e w' => e = .returned (.bool (decide (l = l'))) ∧ Drawn0 w w' := by
  obtain rfl := C_len hr
  obtain rfl := C_len hr'
  by_cases hl : l.length = l'.length
  · have c1 : ((l.length : Int) != (l'.length : Int)) = false := by simp [hl]
    have c2 : ((l.length : Int) == (l'.length : Int)) = true := by simp [hl]
    have c3 : (l.length == l'.length) = true := by simp [hl]
    have HL := Aside0.mk hl
    have HR := Aside0.mk hr
    have HR' := Aside0.mk hr'
    have hm := C_max hr
    clear hl hr hr'
    go_enter Try.func12, Try.ntmps12
    go_wp2
    clear c1 c2 c3
    go_loopg [5] l.length (fun gk v w' => ∃ i : Nat, v = .int .i64 i ∧ i + gk = l.length ∧ Aside0 (l.take i = l'.take i) ∧ Drawn0 w w')
    case atStart => exact ⟨0, rfl, by omega, ⟨rfl⟩, Drawn0.refl _⟩
    case round =>
      obtain ⟨i, rfl, hi, HE, ⟨m, rfl⟩⟩ := hrel
      by_cases hlt : i < l.length
      · have hlt' : i < l'.length := by rw [← HL.out]; exact hlt
        obtain ⟨ad, rfl, hc⟩ := C_at HR.out i hlt
        obtain ⟨ad', rfl, hc'⟩ := C_at HR'.out i hlt'
        by_cases he : nth l i = nth l' i
        · have e1 : (nth l i == nth l' i) = true := beq_iff_eq.mpr he
          have e2 : (nth l i != nth l' i) = false := bne_eq_false_iff_eq.mpr he
          have HE2 := Aside0.mk he
          clear he
          go_wp2
          repeat (go_quiet (fail); try go_wp2)
          go_roundg (gk - 1)
          case measure => omega
          case rel => exact ⟨i + 1, rfl, by omega, ⟨by rw [take_snoc hlt, take_snoc hlt', HE.out, HE2.out]⟩, ⟨⟨_, rfl⟩⟩⟩
        · have e1 : (nth l i == nth l' i) = false := beq_eq_false_iff_ne.mpr he
          have e2 : (nth l i != nth l' i) = true := bne_iff_ne.mpr he
          have HE2 : Aside0 (l ≠ l') := ⟨fun h => he (by rw [h])⟩
          go_wp2
          repeat (go_quiet (fail); try go_wp2)
          go_ret
          exact ⟨retB (decide_eq_false HE2.out).symm, by repeat (first | exact Drawn0.refl _ | apply Drawn0.step)⟩
      · have hi' : i = l.length := by omega
        have HE2 : Aside0 (l = l') := ⟨by
          have h := HE.out
          rw [hi', List.take_length, HL.out, List.take_length] at h
          exact h⟩
        clear hi'
        go_wp2
        repeat (go_quiet (fail); try go_wp2)
        go_ret
        exact ⟨retB (decide_eq_true HE2.out).symm, by repeat (first | exact Drawn0.refl _ | apply Drawn0.step)⟩
  · have c1 : ((l.length : Int) != (l'.length : Int)) = true := by simp; omega
    have c2 : ((l.length : Int) == (l'.length : Int)) = false := by simp; omega
    have c3 : (l.length == l'.length) = false := by simp; omega
    have HE2 : Aside0 (l ≠ l') := ⟨fun h => hl (by rw [h])⟩
    clear hl
    go_enter Try.func12, Try.ntmps12
    go_wp2
    go_ret
    exact ⟨retB (decide_eq_false HE2.out).symm, Drawn0.refl _⟩
theorem same_yes (A : Option Addr) (n c : Nat) (l : List Int) (A' : Option Addr) (n' c' : Nat) (l' : List Int) (w : World) (hr : RdN w A n l) (hr' : RdN w A' n' l') (h : l = l') :
    Calls Try.prog 12 #[.slice A n c, .slice A' n' c'] w fun e w' => e = .returned (.bool true) ∧ Drawn0 w w' := by
  have := same_any A n c l A' n' c' l' w hr hr'
  rw [decide_eq_true h] at this
  exact this
theorem same_no (A : Option Addr) (n c : Nat) (l : List Int) (A' : Option Addr) (n' c' : Nat) (l' : List Int) (w : World) (hr : RdN w A n l) (hr' : RdN w A' n' l') (h : l ≠ l') :
    Calls Try.prog 12 #[.slice A n c, .slice A' n' c'] w fun e w' => e = .returned (.bool false) ∧ Drawn0 w w' := by
  have := same_any A n c l A' n' c' l' w hr hr'
  rw [decide_eq_false h] at this
  exact this
end Go.Proofs.Ytghcnipehgjegaa.Wire
