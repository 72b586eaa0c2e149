/- What the small functions of layer 12 (cell) answer: within, there, has. Conditions stand in each statement. -/
import Derived.Test.YtghcnipehgjegaaKit
import Derived.Test.YtghcnipehgjegaaCellPlain
import Derived.IntWalk
import Derived.Outline
import Derived.Deep.DeepMust
namespace Go.Proofs.Ytghcnipehgjegaa.Cell
open Go.RowKit Go.Proofs.YtghcnipehgjegaaW.PrintWords Go.Proofs.YtghcnipehgjegaaW.PrintLast Go.Proofs.YtghcnipehgjegaaW.PrintMore Go.Proofs.Ytghcnipehgjegaa.Kit Go.Proofs.Ytghcnipehgjegaa.Plain
set_option linter.unusedVariables false
set_option linter.unusedSimpArgs false
theorem within_any (n most : Int) (w : World) : Calls Try.prog 44 #[.int .i64 n, .int .i64 most] w fun e w' => e = .returned (.bool (within n most)) ∧ w = w' := by
  by_cases h1 : 0 ≤ n
  · by_cases h2 : n ≤ most
    · have f1 : decide (0 ≤ n) = true := decide_eq_true h1
      have f2 : decide (n ≤ most) = true := decide_eq_true h2
      have HR := Aside0.mk (show within n most = true from decide_eq_true ⟨h1, h2⟩)
      clear h1 h2
      go_enter Try.func44, Try.ntmps44
      go_wp2
      go_ret
      exact ⟨retB HR.out.symm, rfl⟩
    · have f1 : decide (0 ≤ n) = true := decide_eq_true h1
      have f2 : decide (n ≤ most) = false := decide_eq_false h2
      have HR := Aside0.mk (show within n most = false from decide_eq_false (fun h => h2 h.2))
      clear h1 h2
      go_enter Try.func44, Try.ntmps44
      go_wp2
      go_ret
      exact ⟨retB HR.out.symm, rfl⟩
  · have f1 : decide (0 ≤ n) = false := decide_eq_false h1
    have HR := Aside0.mk (show within n most = false from decide_eq_false (fun h => h1 h.1))
    clear h1
    go_enter Try.func44, Try.ntmps44
    go_wp2
    go_ret
    exact ⟨retB HR.out.symm, rfl⟩
theorem there_any (br vol blk : Int) (w : World) : Calls Try.prog 47 #[.agg #[.int .i64 br, .int .i64 vol, .int .i64 blk]] w fun e w' => e = .returned (.bool (thereB br vol blk)) ∧ Below w.heap.size w w' := by
  have HB := Aside0.mk (below_alloc (Below.refl w.heap.size w) (.cells #[.int .i64 br, .int .i64 vol, .int .i64 blk] 27))
  cases h1 : within br 15 with
  | false =>
    have HR := Aside0.mk (show thereB br vol blk = false by simp [thereB, h1])
    go_enter Try.func47, Try.ntmps47
    go_wp2_with (go_at_call 44; (with_reducible refine (within_any br 15 _).mono ?_); rintro e w1 ⟨rfl, rfl⟩; rw [h1])
    go_ret
    exact ⟨retB HR.out.symm, HB.out⟩
  | true =>
    cases h2 : within vol 7 with
    | false =>
      have HR := Aside0.mk (show thereB br vol blk = false by simp [thereB, h1, h2])
      go_enter Try.func47, Try.ntmps47
      go_wp2_with (go_at_call 44; first
        | ((with_reducible refine (within_any br 15 _).mono ?_); rintro e w1 ⟨rfl, rfl⟩; rw [h1])
        | ((with_reducible refine (within_any vol 7 _).mono ?_); rintro e w1 ⟨rfl, rfl⟩; rw [h2]))
      go_ret
      exact ⟨retB HR.out.symm, HB.out⟩
    | true =>
      have HR := Aside0.mk (show thereB br vol blk = within blk 255 by simp [thereB, h1, h2])
      go_enter Try.func47, Try.ntmps47
      go_wp2_with (go_at_call 44; first
        | ((with_reducible refine (within_any br 15 _).mono ?_); rintro e w1 ⟨rfl, rfl⟩; rw [h1])
        | ((with_reducible refine (within_any vol 7 _).mono ?_); rintro e w1 ⟨rfl, rfl⟩; rw [h2])
        | ((with_reducible refine (within_any blk 255 _).mono ?_); rintro e w1 ⟨rfl, rfl⟩))
      go_ret
      exact ⟨retB HR.out.symm, HB.out⟩
def partsV (k : Int) : Value := .agg #[.bool (hasPlace k), .bool (hasRef k), .bool (hasMin k), .bool (hasBody k)]
set_option maxHeartbeats 800000 in
theorem has_any (k : Int) (w : World) : Calls Try.prog 36 #[.int .i64 k] w fun e w' => e = .returned (.tuple #[partsV k, .bool (hasKind k)]) ∧ Below w.heap.size w w' := by
  by_cases h1 : k = 1
  · subst h1
    go_enter Try.func36, Try.ntmps36
    go_wp2
    refine bodyPost_ret (v := .tuple #[.agg #[.bool true, .bool true, .bool false, .bool true], .bool true]) (by simp [results, Try.results36, go_sem]) rfl ?_
    exact ⟨by simp [partsV, hasPlace, hasRef, hasMin, hasBody, hasKind], below_alloc (below_alloc (Below.refl _ _) _) _⟩
  by_cases h2 : k = 2
  · subst h2
    go_enter Try.func36, Try.ntmps36
    go_wp2
    refine bodyPost_ret (v := .tuple #[.agg #[.bool true, .bool true, .bool false, .bool false], .bool true]) (by simp [results, Try.results36, go_sem]) rfl ?_
    exact ⟨by simp [partsV, hasPlace, hasRef, hasMin, hasBody, hasKind], below_alloc (below_alloc (Below.refl _ _) _) _⟩
  by_cases h3 : k = 3
  · subst h3
    go_enter Try.func36, Try.ntmps36
    go_wp2
    refine bodyPost_ret (v := .tuple #[.agg #[.bool true, .bool true, .bool false, .bool true], .bool true]) (by simp [results, Try.results36, go_sem]) rfl ?_
    exact ⟨by simp [partsV, hasPlace, hasRef, hasMin, hasBody, hasKind], below_alloc (below_alloc (Below.refl _ _) _) _⟩
  by_cases h4 : k = 4
  · subst h4
    go_enter Try.func36, Try.ntmps36
    go_wp2
    refine bodyPost_ret (v := .tuple #[.agg #[.bool true, .bool true, .bool false, .bool false], .bool true]) (by simp [results, Try.results36, go_sem]) rfl ?_
    exact ⟨by simp [partsV, hasPlace, hasRef, hasMin, hasBody, hasKind], below_alloc (below_alloc (Below.refl _ _) _) _⟩
  by_cases h5 : k = 5
  · subst h5
    go_enter Try.func36, Try.ntmps36
    go_wp2
    refine bodyPost_ret (v := .tuple #[.agg #[.bool true, .bool false, .bool false, .bool false], .bool true]) (by simp [results, Try.results36, go_sem]) rfl ?_
    exact ⟨by simp [partsV, hasPlace, hasRef, hasMin, hasBody, hasKind], below_alloc (below_alloc (Below.refl _ _) _) _⟩
  by_cases h6 : k = 6
  · subst h6
    go_enter Try.func36, Try.ntmps36
    go_wp2
    refine bodyPost_ret (v := .tuple #[.agg #[.bool false, .bool true, .bool true, .bool false], .bool true]) (by simp [results, Try.results36, go_sem]) rfl ?_
    exact ⟨by simp [partsV, hasPlace, hasRef, hasMin, hasBody, hasKind], below_alloc (below_alloc (Below.refl _ _) _) _⟩
  by_cases h7 : k = 7
  · subst h7
    go_enter Try.func36, Try.ntmps36
    go_wp2
    refine bodyPost_ret (v := .tuple #[.agg #[.bool false, .bool true, .bool false, .bool false], .bool true]) (by simp [results, Try.results36, go_sem]) rfl ?_
    exact ⟨by simp [partsV, hasPlace, hasRef, hasMin, hasBody, hasKind], below_alloc (below_alloc (Below.refl _ _) _) _⟩
  by_cases h8 : k = 8
  · subst h8
    go_enter Try.func36, Try.ntmps36
    go_wp2
    refine bodyPost_ret (v := .tuple #[.agg #[.bool false, .bool false, .bool false, .bool false], .bool true]) (by simp [results, Try.results36, go_sem]) rfl ?_
    exact ⟨by simp [partsV, hasPlace, hasRef, hasMin, hasBody, hasKind], below_alloc (below_alloc (Below.refl _ _) _) _⟩
  have f1 : (k == 1) = false := beq_eq_false_iff_ne.2 h1
  have f2 : (k == 2) = false := beq_eq_false_iff_ne.2 h2
  have f3 : (k == 3) = false := beq_eq_false_iff_ne.2 h3
  have f4 : (k == 4) = false := beq_eq_false_iff_ne.2 h4
  have f5 : (k == 5) = false := beq_eq_false_iff_ne.2 h5
  have f6 : (k == 6) = false := beq_eq_false_iff_ne.2 h6
  have f7 : (k == 7) = false := beq_eq_false_iff_ne.2 h7
  have f8 : (k == 8) = false := beq_eq_false_iff_ne.2 h8
  have HE := Aside0.mk (show Ending.returned (.tuple #[.agg #[.bool false, .bool false, .bool false, .bool false], .bool false]) = Ending.returned (.tuple #[partsV k, .bool (hasKind k)]) by
    have e1 : hasPlace k = false := decide_eq_false (by omega)
    have e2 : hasRef k = false := decide_eq_false (by omega)
    have e3 : hasMin k = false := decide_eq_false (by omega)
    have e4 : hasBody k = false := decide_eq_false (by omega)
    have e5 : hasKind k = false := decide_eq_false (by omega)
    rw [partsV, e1, e2, e3, e4, e5])
  clear h1 h2 h3 h4 h5 h6 h7 h8
  go_enter Try.func36, Try.ntmps36
  go_wp2
  refine bodyPost_ret (v := .tuple #[.agg #[.bool false, .bool false, .bool false, .bool false], .bool false]) (by simp [results, Try.results36, go_sem]) rfl ?_
  exact ⟨HE.out, below_alloc (below_alloc (Below.refl _ _) _) _⟩
end Go.Proofs.Ytghcnipehgjegaa.Cell
