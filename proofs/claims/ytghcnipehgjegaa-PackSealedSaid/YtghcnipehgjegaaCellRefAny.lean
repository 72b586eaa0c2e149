/- What Right of the reference of layer 12 answers, for any cell. Conditions stand in each statement. -/
import Derived.Test.YtghcnipehgjegaaCellRefRight
namespace Go.Proofs.Ytghcnipehgjegaa.Cell
open Go.RowKit Go.Proofs.YtghcnipehgjegaaW.PrintWords Go.Proofs.YtghcnipehgjegaaW.PrintLast Go.Proofs.YtghcnipehgjegaaW.PrintMore Go.Proofs.Ytghcnipehgjegaa.Kit Go.Proofs.Ytghcnipehgjegaa.Plain Go.Proofs.Ytghcnipehgjegaa.Wire
set_option linter.unusedVariables false
set_option linter.unusedSimpArgs false
theorem num_split {x : Cel} (h : numOk x = false) : rightB x = false := by
  unfold numOk at h
  rw [rightB]
  generalize decide (1 ≤ x.num) = a at *
  generalize decide (x.num ≤ 65535) = b at *
  generalize within x.min 1073741824 = d at *
  generalize sameB x (keepC x) = s
  generalize hasKind x.kind = k
  generalize fieldsB x = g
  cases a <;> cases b <;> cases d <;> cases s <;> cases k <;> cases g <;> simp_all
set_option maxHeartbeats 3200000 in
set_option maxRecDepth 100000 in
theorem refright_any (x : Cel) (A : Option Addr) (c : Nat) (w : World) (hr : RdN w A x.body.length x.body) (hy : Byt x.body) :
    Calls Try.prog 10 #[.agg (celA x A c)] w fun e w' => e = .returned (.bool (rightB x)) ∧ Below w.heap.size w w' := by
  by_cases h1 : x.num < 1
  · have n1 : decide (x.num < 1) = true := decide_eq_true h1
    have q1 : ¬ 1 ≤ x.num := by omega
    cases hM : within x.min 1073741824
    all_goals (have HE := Aside0.mk (show rightB x = false from num_split (by unfold numOk; simp [q1])))
    all_goals clear h1 q1
    all_goals go_enter Try.func10, Try.ntmps10
    all_goals go_wp2
    all_goals go_ret
    all_goals exact ⟨retB HE.out.symm, below_alloc (Below.refl _ _) _⟩
  have n1 : decide (x.num < 1) = false := decide_eq_false h1
  by_cases h2 : 65535 < x.num
  · have n2 : decide (65535 < x.num) = true := decide_eq_true h2
    have q2 : ¬ x.num ≤ 65535 := by omega
    have HE := Aside0.mk (show rightB x = false from num_split (by unfold numOk; simp [q2]))
    clear h1 h2 q2
    go_enter Try.func10, Try.ntmps10
    go_wp2
    go_ret
    exact ⟨retB HE.out.symm, below_alloc (Below.refl _ _) _⟩
  have n2 : decide (65535 < x.num) = false := decide_eq_false h2
  cases hM : within x.min 1073741824 with
  | false =>
    have HE := Aside0.mk (show rightB x = false from num_split (by unfold numOk; simp [hM]))
    clear h1 h2
    go_enter Try.func10, Try.ntmps10
    go_wp2_with (go_at_call 22; go_must (refine (minute_any x.min _).mono ?_; rintro e w4 ⟨rfl, rfl⟩; rw [hM]))
    go_ret
    exact ⟨retB HE.out.symm, below_alloc (Below.refl _ _) _⟩
  | true =>
    have hn : numOk x = true := by unfold numOk; rw [hM, decide_eq_true (show 1 ≤ x.num by omega), decide_eq_true (show x.num ≤ 65535 by omega)]; rfl
    by_cases k1 : x.kind = 1
    · exact refright_1 x A c w hr hy n1 n2 hM (beq_iff_eq.2 k1) ⟨rr1 x k1 hn⟩
    by_cases k2 : x.kind = 2
    · exact refright_2 x A c w hr hy n1 n2 hM (beq_eq_false_iff_ne.2 k1) (beq_iff_eq.2 k2) ⟨rr2 x k2 hn⟩
    by_cases k3 : x.kind = 3
    · exact refright_3 x A c w hr hy n1 n2 hM (beq_eq_false_iff_ne.2 k1) (beq_eq_false_iff_ne.2 k2) (beq_iff_eq.2 k3) ⟨rr3 x k3 hn⟩
    by_cases k4 : x.kind = 4
    · exact refright_4 x A c w hr hy n1 n2 hM (beq_eq_false_iff_ne.2 k1) (beq_eq_false_iff_ne.2 k2) (beq_eq_false_iff_ne.2 k3) (beq_iff_eq.2 k4) ⟨rr4 x k4 hn⟩
    by_cases k5 : x.kind = 5
    · exact refright_5 x A c w hr hy n1 n2 hM (beq_eq_false_iff_ne.2 k1) (beq_eq_false_iff_ne.2 k2) (beq_eq_false_iff_ne.2 k3) (beq_eq_false_iff_ne.2 k4) (beq_iff_eq.2 k5) ⟨rr5 x k5 hn⟩
    by_cases k6 : x.kind = 6
    · exact refright_6 x A c w hr hy n1 n2 hM (beq_eq_false_iff_ne.2 k1) (beq_eq_false_iff_ne.2 k2) (beq_eq_false_iff_ne.2 k3) (beq_eq_false_iff_ne.2 k4) (beq_eq_false_iff_ne.2 k5) (beq_iff_eq.2 k6) ⟨rr6 x k6 hn⟩
    by_cases k7 : x.kind = 7
    · exact refright_7 x A c w hr hy n1 n2 hM (beq_eq_false_iff_ne.2 k1) (beq_eq_false_iff_ne.2 k2) (beq_eq_false_iff_ne.2 k3) (beq_eq_false_iff_ne.2 k4) (beq_eq_false_iff_ne.2 k5) (beq_eq_false_iff_ne.2 k6) (beq_iff_eq.2 k7) ⟨rr7 x k7 hn⟩
    by_cases k8 : x.kind = 8
    · exact refright_8 x A c w hr hy n1 n2 hM (beq_eq_false_iff_ne.2 k1) (beq_eq_false_iff_ne.2 k2) (beq_eq_false_iff_ne.2 k3) (beq_eq_false_iff_ne.2 k4) (beq_eq_false_iff_ne.2 k5) (beq_eq_false_iff_ne.2 k6) (beq_eq_false_iff_ne.2 k7) (beq_iff_eq.2 k8) ⟨rr8 x k8 hn⟩
    have f1 : (x.kind == 1) = false := beq_eq_false_iff_ne.2 k1
    have f2 : (x.kind == 2) = false := beq_eq_false_iff_ne.2 k2
    have f3 : (x.kind == 3) = false := beq_eq_false_iff_ne.2 k3
    have f4 : (x.kind == 4) = false := beq_eq_false_iff_ne.2 k4
    have f5 : (x.kind == 5) = false := beq_eq_false_iff_ne.2 k5
    have f6 : (x.kind == 6) = false := beq_eq_false_iff_ne.2 k6
    have f7 : (x.kind == 7) = false := beq_eq_false_iff_ne.2 k7
    have f8 : (x.kind == 8) = false := beq_eq_false_iff_ne.2 k8
    have HE := Aside0.mk (show rightB x = false by rw [rightB, show hasKind x.kind = false from decide_eq_false (by omega)]; rfl)
    clear h1 h2 hn k1 k2 k3 k4 k5 k6 k7 k8
    go_enter Try.func10, Try.ntmps10
    go_upto_region 4 with (go_at_call 22; go_must (refine (minute_any x.min _).mono ?_; rintro e w4 ⟨rfl, rfl⟩; rw [hM]))
    go_cut [4] from 27 to 36 (fun v wx => v = .bool (elderB x) ∧ wx = ((w.alloc (.cells (celA x A c) 30)).alloc (.cells #[.int .i64 x.kind, .int .u64 x.num, .int .i64 x.min, .int .i64 0, .int .i64 0, .int .i64 0, .int .u64 0, .int .i64 0, .int .i64 0, .int .i64 0, .slice none 0 0] 30)))
    case first =>
      by_cases h1 : 1 ≤ x.ref
      · by_cases h2 : x.ref < x.num
        · have f1 : decide (1 ≤ x.ref) = true := decide_eq_true h1
          have f2 : decide (x.ref < x.num) = true := decide_eq_true h2
          have HE := Aside0.mk (show elderB x = true from decide_eq_true ⟨h1, h2⟩)
          clear h1 h2
          go_wp2
          go_meet
          case rel => exact ⟨by rw [HE.out], rfl⟩
        · have f1 : decide (1 ≤ x.ref) = true := decide_eq_true h1
          have f2 : decide (x.ref < x.num) = false := decide_eq_false h2
          have HE := Aside0.mk (show elderB x = false from decide_eq_false (fun h => h2 h.2))
          clear h1 h2
          go_wp2
          go_meet
          case rel => exact ⟨by rw [HE.out], rfl⟩
      · have f1 : decide (1 ≤ x.ref) = false := decide_eq_false h1
        have HE := Aside0.mk (show elderB x = false from decide_eq_false (fun h => h1 h.1))
        clear h1
        go_wp2
        go_meet
        case rel => exact ⟨by rw [HE.out], rfl⟩
    case rest =>
      obtain ⟨rfl, rfl⟩ := hcut
      go_wp2
      go_ret
      exact ⟨retB HE.out.symm, below_alloc (below_alloc (Below.refl _ _) _) _⟩
end Go.Proofs.Ytghcnipehgjegaa.Cell
