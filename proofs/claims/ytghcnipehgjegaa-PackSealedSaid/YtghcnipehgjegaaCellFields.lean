/- What cell.fields answers. No conditions. -/
import Derived.Test.YtghcnipehgjegaaCell
import Derived.Deep.CutRange
namespace Go.Proofs.Ytghcnipehgjegaa.Cell
open Go.RowKit Go.Proofs.YtghcnipehgjegaaW.PrintWords Go.Proofs.YtghcnipehgjegaaW.PrintLast Go.Proofs.YtghcnipehgjegaaW.PrintMore Go.Proofs.Ytghcnipehgjegaa.Kit Go.Proofs.Ytghcnipehgjegaa.Plain
set_option linter.unusedVariables false
set_option linter.unusedSimpArgs false
abbrev celA (x : Cel) (A : Option Addr) (c : Nat) : Array Value := #[.int .i64 x.kind, .int .u64 x.num, .int .i64 x.min, .int .i64 x.br, .int .i64 x.vol, .int .i64 x.blk, .int .u64 x.ref, .int .i64 x.fr, .int .i64 x.to, .int .i64 x.un, .slice A x.body.length c]
set_option maxHeartbeats 800000 in
set_option maxRecDepth 100000 in
theorem fields_any (x : Cel) (A : Option Addr) (c : Nat) (w : World) : Calls Try.prog 45 #[.agg (celA x A c)] w fun e w' => e = .returned (.bool (fieldsB x)) ∧ Below w.heap.size w w' := by
  go_enter Try.func45, Try.ntmps45
  go_upto_region 2 with fail
  obtain ⟨W1, hW1⟩ : ∃ W1, W1 = (w.alloc (.cells (celA x A c) 30)).alloc (.cells #[.int .i64 x.br, .int .i64 x.vol, .int .i64 x.blk] 27) := ⟨_, rfl⟩
  rw [← hW1]
  have HB := Aside0.mk (show Below w.heap.size w W1 by rw [hW1]; exact below_alloc (below_alloc (Below.refl _ _) _) _)
  have hk : W1.heap[w.heap.size]? = some (.cells (celA x A c) 30 (0, 0)) := by rw [hW1]; exact blk_alloc (blk_new w _) _
  have hp : W1.heap[w.heap.size + 1]? = some (.cells #[.int .i64 x.br, .int .i64 x.vol, .int .i64 x.blk] 27 (0, 0)) := by
    have h1 := blk_new (w.alloc (.cells (celA x A c) 30)) (.cells #[.int .i64 x.br, .int .i64 x.vol, .int .i64 x.blk] 27)
    rw [show (w.alloc (.cells (celA x A c) 30)).heap.size = w.heap.size + 1 by simp] at h1
    rw [hW1]; exact h1
  have c1 : W1.cell? ⟨w.heap.size, 1, none⟩ = some (.int .u64 x.num) := blk_cell hk 1
  have c6 : W1.cell? ⟨w.heap.size, 6, none⟩ = some (.int .u64 x.ref) := blk_cell hk 6
  clear hW1
  have p0 : W1.cell? ⟨w.heap.size + 1, 0, none⟩ = some (.int .i64 x.br) := blk_cell hp 0
  have p1 : W1.cell? ⟨w.heap.size + 1, 1, none⟩ = some (.int .i64 x.vol) := blk_cell hp 1
  have p2 : W1.cell? ⟨w.heap.size + 1, 2, none⟩ = some (.int .i64 x.blk) := blk_cell hp 2
  have c0 : W1.cell? ⟨w.heap.size, 0, none⟩ = some (.int .i64 x.kind) := blk_cell hk 0
  have c7 : W1.cell? ⟨w.heap.size, 7, none⟩ = some (.int .i64 x.fr) := blk_cell hk 7
  have c8 : W1.cell? ⟨w.heap.size, 8, none⟩ = some (.int .i64 x.to) := blk_cell hk 8
  have c9 : W1.cell? ⟨w.heap.size, 9, none⟩ = some (.int .i64 x.un) := blk_cell hk 9
  have c10 : W1.cell? ⟨w.heap.size, 10, none⟩ = some (.slice A x.body.length c) := blk_cell hk 10
  go_cut [4] from 8 to 17 (fun v wx => v = .bool (elderB x) ∧ wx = W1)
  case first =>
    by_cases h1 : 1 ≤ x.ref
    · by_cases h2 : x.ref < x.num
      · have f1 : decide (1 ≤ x.ref) = true := decide_eq_true h1
        have f2 : decide (x.ref < x.num) = true := decide_eq_true h2
        have HE := Aside0.mk (show elderB x = true from decide_eq_true ⟨h1, h2⟩)
        clear h1 h2
        go_wp2
        go_meet
        case rel => exact ⟨by rw [HE.out], rfl⟩
      · have f1 : decide (1 ≤ x.ref) = true := decide_eq_true h1
        have f2 : decide (x.ref < x.num) = false := decide_eq_false h2
        have HE := Aside0.mk (show elderB x = false from decide_eq_false (fun h => h2 h.2))
        clear h1 h2
        go_wp2
        go_meet
        case rel => exact ⟨by rw [HE.out], rfl⟩
    · have f1 : decide (1 ≤ x.ref) = false := decide_eq_false h1
      have HE := Aside0.mk (show elderB x = false from decide_eq_false (fun h => h1 h.1))
      clear h1
      go_wp2
      go_meet
      case rel => exact ⟨by rw [HE.out], rfl⟩
  case rest =>
    obtain ⟨rfl, rfl⟩ := hcut
    obtain ⟨W1, rfl⟩ : ∃ W1 : World, W1 = wc := ⟨_, rfl⟩
    go_upto_region 3 with fail
    go_cut [5] from 18 to 25 (fun v wx => v = .bool (branchB x) ∧ wx = W1)
    case first =>
      by_cases h1 : 1 ≤ x.br
      · by_cases h2 : x.br < 16
        · have f1 : decide (1 ≤ x.br) = true := decide_eq_true h1
          have f2 : decide (x.br < 16) = true := decide_eq_true h2
          have HE := Aside0.mk (show branchB x = true from decide_eq_true ⟨h1, h2⟩)
          clear h1 h2
          go_wp2
          go_meet
          case rel => exact ⟨by rw [HE.out], rfl⟩
        · have f1 : decide (1 ≤ x.br) = true := decide_eq_true h1
          have f2 : decide (x.br < 16) = false := decide_eq_false h2
          have HE := Aside0.mk (show branchB x = false from decide_eq_false (fun h => h2 h.2))
          clear h1 h2
          go_wp2
          go_meet
          case rel => exact ⟨by rw [HE.out], rfl⟩
      · have f1 : decide (1 ≤ x.br) = false := decide_eq_false h1
        have HE := Aside0.mk (show branchB x = false from decide_eq_false (fun h => h1 h.1))
        clear h1
        go_wp2
        go_meet
        case rel => exact ⟨by rw [HE.out], rfl⟩
    case rest =>
      obtain ⟨rfl, rfl⟩ := hcut
      have n1 : (x.kind == 1) = true ∨ (x.kind == 1) = false := by cases (x.kind == 1) <;> simp
      by_cases k1 : x.kind = 1
      · have f1 : (x.kind == 1) = true := beq_iff_eq.2 k1
        have HKD := Aside0.mk (show fieldsB x = fieldsK 1 x by rw [fieldsB, k1])
        clear n1 k1
        cases hT : thereB x.br x.vol x.blk with
        | false =>
          go_wp2_with (first
            | (go_at_call 47; (with_reducible refine (there_any x.br x.vol x.blk _).mono ?_); rintro e w8 ⟨rfl, hb⟩; rw [hT]; replace c6 := pw_cell_below hb c6; replace c10 := pw_cell_below hb c10; replace HB := Aside0.mk (HB.out.trans (hb.mono HB.out.size)); clear hb)
            | (go_at_call 44; first | ((with_reducible refine (within_any x.vol 15 _).mono ?_); rintro e w9 ⟨rfl, rfl⟩; rw [hW]) | ((with_reducible refine (within_any x.fr x.to _).mono ?_); rintro e w9 ⟨rfl, rfl⟩; rw [hF]) | ((with_reducible refine (within_any x.to 1073741824 _).mono ?_); rintro e w9 ⟨rfl, rfl⟩; rw [hO]) | ((with_reducible refine (within_any x.un 1073741824 _).mono ?_); rintro e w9 ⟨rfl, rfl⟩; rw [hU])))
          go_ret
          exact ⟨retB (by rw [HKD.out]; simp [fieldsK, hT]), HB.out⟩
        | true =>
          by_cases hR : x.ref ≤ 1
          · have gR : decide (x.ref ≤ 1) = true := decide_eq_true hR
            by_cases hL : (x.body.length : Int) = 32
            · have gL : ((x.body.length : Int) == 32) = true := beq_iff_eq.2 hL
              go_wp2_with (first
                | (go_at_call 47; (with_reducible refine (there_any x.br x.vol x.blk _).mono ?_); rintro e w8 ⟨rfl, hb⟩; rw [hT]; replace c6 := pw_cell_below hb c6; replace c10 := pw_cell_below hb c10; replace HB := Aside0.mk (HB.out.trans (hb.mono HB.out.size)); clear hb)
                | (go_at_call 44; first | ((with_reducible refine (within_any x.vol 15 _).mono ?_); rintro e w9 ⟨rfl, rfl⟩; rw [hW]) | ((with_reducible refine (within_any x.fr x.to _).mono ?_); rintro e w9 ⟨rfl, rfl⟩; rw [hF]) | ((with_reducible refine (within_any x.to 1073741824 _).mono ?_); rintro e w9 ⟨rfl, rfl⟩; rw [hO]) | ((with_reducible refine (within_any x.un 1073741824 _).mono ?_); rintro e w9 ⟨rfl, rfl⟩; rw [hU])))
              go_ret
              exact ⟨retB (by rw [HKD.out]; simp [fieldsK, hT, hR, gR, hL, gL]), HB.out⟩
            · have gL : ((x.body.length : Int) == 32) = false := beq_eq_false_iff_ne.2 hL
              go_wp2_with (first
                | (go_at_call 47; (with_reducible refine (there_any x.br x.vol x.blk _).mono ?_); rintro e w8 ⟨rfl, hb⟩; rw [hT]; replace c6 := pw_cell_below hb c6; replace c10 := pw_cell_below hb c10; replace HB := Aside0.mk (HB.out.trans (hb.mono HB.out.size)); clear hb)
                | (go_at_call 44; first | ((with_reducible refine (within_any x.vol 15 _).mono ?_); rintro e w9 ⟨rfl, rfl⟩; rw [hW]) | ((with_reducible refine (within_any x.fr x.to _).mono ?_); rintro e w9 ⟨rfl, rfl⟩; rw [hF]) | ((with_reducible refine (within_any x.to 1073741824 _).mono ?_); rintro e w9 ⟨rfl, rfl⟩; rw [hO]) | ((with_reducible refine (within_any x.un 1073741824 _).mono ?_); rintro e w9 ⟨rfl, rfl⟩; rw [hU])))
              go_ret
              exact ⟨retB (by rw [HKD.out]; simp [fieldsK, hT, hR, gR, hL, gL]), HB.out⟩
          · have gR : decide (x.ref ≤ 1) = false := decide_eq_false hR
            go_wp2_with (first
              | (go_at_call 47; (with_reducible refine (there_any x.br x.vol x.blk _).mono ?_); rintro e w8 ⟨rfl, hb⟩; rw [hT]; replace c6 := pw_cell_below hb c6; replace c10 := pw_cell_below hb c10; replace HB := Aside0.mk (HB.out.trans (hb.mono HB.out.size)); clear hb)
              | (go_at_call 44; first | ((with_reducible refine (within_any x.vol 15 _).mono ?_); rintro e w9 ⟨rfl, rfl⟩; rw [hW]) | ((with_reducible refine (within_any x.fr x.to _).mono ?_); rintro e w9 ⟨rfl, rfl⟩; rw [hF]) | ((with_reducible refine (within_any x.to 1073741824 _).mono ?_); rintro e w9 ⟨rfl, rfl⟩; rw [hO]) | ((with_reducible refine (within_any x.un 1073741824 _).mono ?_); rintro e w9 ⟨rfl, rfl⟩; rw [hU])))
            go_ret
            exact ⟨retB (by rw [HKD.out]; simp [fieldsK, hT, hR, gR]), HB.out⟩
      have f1 : (x.kind == 1) = false := beq_eq_false_iff_ne.2 k1
      by_cases k2 : x.kind = 2
      · have f2 : (x.kind == 2) = true := beq_iff_eq.2 k2
        have HKD := Aside0.mk (show fieldsB x = fieldsK 2 x by rw [fieldsB, k2])
        clear n1 k1 k2
        cases hT : thereB x.br x.vol x.blk with
        | false =>
          go_wp2_with (first
            | (go_at_call 47; (with_reducible refine (there_any x.br x.vol x.blk _).mono ?_); rintro e w8 ⟨rfl, hb⟩; rw [hT]; replace c6 := pw_cell_below hb c6; replace c10 := pw_cell_below hb c10; replace HB := Aside0.mk (HB.out.trans (hb.mono HB.out.size)); clear hb)
            | (go_at_call 44; first | ((with_reducible refine (within_any x.vol 15 _).mono ?_); rintro e w9 ⟨rfl, rfl⟩; rw [hW]) | ((with_reducible refine (within_any x.fr x.to _).mono ?_); rintro e w9 ⟨rfl, rfl⟩; rw [hF]) | ((with_reducible refine (within_any x.to 1073741824 _).mono ?_); rintro e w9 ⟨rfl, rfl⟩; rw [hO]) | ((with_reducible refine (within_any x.un 1073741824 _).mono ?_); rintro e w9 ⟨rfl, rfl⟩; rw [hU])))
          go_ret
          exact ⟨retB (by rw [HKD.out]; simp [fieldsK, hT]), HB.out⟩
        | true =>
          cases hE : elderB x with
          | false =>
            go_wp2_with (first
              | (go_at_call 47; (with_reducible refine (there_any x.br x.vol x.blk _).mono ?_); rintro e w8 ⟨rfl, hb⟩; rw [hT]; replace c6 := pw_cell_below hb c6; replace c10 := pw_cell_below hb c10; replace HB := Aside0.mk (HB.out.trans (hb.mono HB.out.size)); clear hb)
              | (go_at_call 44; first | ((with_reducible refine (within_any x.vol 15 _).mono ?_); rintro e w9 ⟨rfl, rfl⟩; rw [hW]) | ((with_reducible refine (within_any x.fr x.to _).mono ?_); rintro e w9 ⟨rfl, rfl⟩; rw [hF]) | ((with_reducible refine (within_any x.to 1073741824 _).mono ?_); rintro e w9 ⟨rfl, rfl⟩; rw [hO]) | ((with_reducible refine (within_any x.un 1073741824 _).mono ?_); rintro e w9 ⟨rfl, rfl⟩; rw [hU])))
            go_ret
            exact ⟨retB (by rw [HKD.out]; simp [fieldsK, hT, hE]), HB.out⟩
          | true =>
            go_wp2_with (first
              | (go_at_call 47; (with_reducible refine (there_any x.br x.vol x.blk _).mono ?_); rintro e w8 ⟨rfl, hb⟩; rw [hT]; replace c6 := pw_cell_below hb c6; replace c10 := pw_cell_below hb c10; replace HB := Aside0.mk (HB.out.trans (hb.mono HB.out.size)); clear hb)
              | (go_at_call 44; first | ((with_reducible refine (within_any x.vol 15 _).mono ?_); rintro e w9 ⟨rfl, rfl⟩; rw [hW]) | ((with_reducible refine (within_any x.fr x.to _).mono ?_); rintro e w9 ⟨rfl, rfl⟩; rw [hF]) | ((with_reducible refine (within_any x.to 1073741824 _).mono ?_); rintro e w9 ⟨rfl, rfl⟩; rw [hO]) | ((with_reducible refine (within_any x.un 1073741824 _).mono ?_); rintro e w9 ⟨rfl, rfl⟩; rw [hU])))
            go_ret
            exact ⟨retB (by rw [HKD.out]; simp [fieldsK, hT, hE]), HB.out⟩
      have f2 : (x.kind == 2) = false := beq_eq_false_iff_ne.2 k2
      by_cases k3 : x.kind = 3
      · have f3 : (x.kind == 3) = true := beq_iff_eq.2 k3
        have HKD := Aside0.mk (show fieldsB x = fieldsK 3 x by rw [fieldsB, k3])
        clear n1 k1 k2 k3
        cases hT : thereB x.br x.vol x.blk with
        | false =>
          go_wp2_with (first
            | (go_at_call 47; (with_reducible refine (there_any x.br x.vol x.blk _).mono ?_); rintro e w8 ⟨rfl, hb⟩; rw [hT]; replace c6 := pw_cell_below hb c6; replace c10 := pw_cell_below hb c10; replace HB := Aside0.mk (HB.out.trans (hb.mono HB.out.size)); clear hb)
            | (go_at_call 44; first | ((with_reducible refine (within_any x.vol 15 _).mono ?_); rintro e w9 ⟨rfl, rfl⟩; rw [hW]) | ((with_reducible refine (within_any x.fr x.to _).mono ?_); rintro e w9 ⟨rfl, rfl⟩; rw [hF]) | ((with_reducible refine (within_any x.to 1073741824 _).mono ?_); rintro e w9 ⟨rfl, rfl⟩; rw [hO]) | ((with_reducible refine (within_any x.un 1073741824 _).mono ?_); rintro e w9 ⟨rfl, rfl⟩; rw [hU])))
          go_ret
          exact ⟨retB (by rw [HKD.out]; simp [fieldsK, hT]), HB.out⟩
        | true =>
          cases hE : elderB x with
          | false =>
            go_wp2_with (first
              | (go_at_call 47; (with_reducible refine (there_any x.br x.vol x.blk _).mono ?_); rintro e w8 ⟨rfl, hb⟩; rw [hT]; replace c6 := pw_cell_below hb c6; replace c10 := pw_cell_below hb c10; replace HB := Aside0.mk (HB.out.trans (hb.mono HB.out.size)); clear hb)
              | (go_at_call 44; first | ((with_reducible refine (within_any x.vol 15 _).mono ?_); rintro e w9 ⟨rfl, rfl⟩; rw [hW]) | ((with_reducible refine (within_any x.fr x.to _).mono ?_); rintro e w9 ⟨rfl, rfl⟩; rw [hF]) | ((with_reducible refine (within_any x.to 1073741824 _).mono ?_); rintro e w9 ⟨rfl, rfl⟩; rw [hO]) | ((with_reducible refine (within_any x.un 1073741824 _).mono ?_); rintro e w9 ⟨rfl, rfl⟩; rw [hU])))
            go_ret
            exact ⟨retB (by rw [HKD.out]; simp [fieldsK, hT, hE]), HB.out⟩
          | true =>
            by_cases hP : 1 ≤ (x.body.length : Int)
            · have gP : decide (1 ≤ (x.body.length : Int)) = true := decide_eq_true hP
              by_cases hQ : (x.body.length : Int) ≤ 20
              · have gQ : decide ((x.body.length : Int) ≤ 20) = true := decide_eq_true hQ
                go_wp2_with (first
                  | (go_at_call 47; (with_reducible refine (there_any x.br x.vol x.blk _).mono ?_); rintro e w8 ⟨rfl, hb⟩; rw [hT]; replace c6 := pw_cell_below hb c6; replace c10 := pw_cell_below hb c10; replace HB := Aside0.mk (HB.out.trans (hb.mono HB.out.size)); clear hb)
                  | (go_at_call 44; first | ((with_reducible refine (within_any x.vol 15 _).mono ?_); rintro e w9 ⟨rfl, rfl⟩; rw [hW]) | ((with_reducible refine (within_any x.fr x.to _).mono ?_); rintro e w9 ⟨rfl, rfl⟩; rw [hF]) | ((with_reducible refine (within_any x.to 1073741824 _).mono ?_); rintro e w9 ⟨rfl, rfl⟩; rw [hO]) | ((with_reducible refine (within_any x.un 1073741824 _).mono ?_); rintro e w9 ⟨rfl, rfl⟩; rw [hU])))
                go_ret
                exact ⟨retB (by rw [HKD.out]; simp [fieldsK, hT, hE, hP, gP, hQ, gQ]), HB.out⟩
              · have gQ : decide ((x.body.length : Int) ≤ 20) = false := decide_eq_false hQ
                go_wp2_with (first
                  | (go_at_call 47; (with_reducible refine (there_any x.br x.vol x.blk _).mono ?_); rintro e w8 ⟨rfl, hb⟩; rw [hT]; replace c6 := pw_cell_below hb c6; replace c10 := pw_cell_below hb c10; replace HB := Aside0.mk (HB.out.trans (hb.mono HB.out.size)); clear hb)
                  | (go_at_call 44; first | ((with_reducible refine (within_any x.vol 15 _).mono ?_); rintro e w9 ⟨rfl, rfl⟩; rw [hW]) | ((with_reducible refine (within_any x.fr x.to _).mono ?_); rintro e w9 ⟨rfl, rfl⟩; rw [hF]) | ((with_reducible refine (within_any x.to 1073741824 _).mono ?_); rintro e w9 ⟨rfl, rfl⟩; rw [hO]) | ((with_reducible refine (within_any x.un 1073741824 _).mono ?_); rintro e w9 ⟨rfl, rfl⟩; rw [hU])))
                go_ret
                exact ⟨retB (by rw [HKD.out]; simp [fieldsK, hT, hE, hP, gP, hQ, gQ]), HB.out⟩
            · have gP : decide (1 ≤ (x.body.length : Int)) = false := decide_eq_false hP
              go_wp2_with (first
                | (go_at_call 47; (with_reducible refine (there_any x.br x.vol x.blk _).mono ?_); rintro e w8 ⟨rfl, hb⟩; rw [hT]; replace c6 := pw_cell_below hb c6; replace c10 := pw_cell_below hb c10; replace HB := Aside0.mk (HB.out.trans (hb.mono HB.out.size)); clear hb)
                | (go_at_call 44; first | ((with_reducible refine (within_any x.vol 15 _).mono ?_); rintro e w9 ⟨rfl, rfl⟩; rw [hW]) | ((with_reducible refine (within_any x.fr x.to _).mono ?_); rintro e w9 ⟨rfl, rfl⟩; rw [hF]) | ((with_reducible refine (within_any x.to 1073741824 _).mono ?_); rintro e w9 ⟨rfl, rfl⟩; rw [hO]) | ((with_reducible refine (within_any x.un 1073741824 _).mono ?_); rintro e w9 ⟨rfl, rfl⟩; rw [hU])))
              go_ret
              exact ⟨retB (by rw [HKD.out]; simp [fieldsK, hT, hE, hP, gP]), HB.out⟩
      have f3 : (x.kind == 3) = false := beq_eq_false_iff_ne.2 k3
      by_cases k4 : x.kind = 4
      · have f4 : (x.kind == 4) = true := beq_iff_eq.2 k4
        have HKD := Aside0.mk (show fieldsB x = fieldsK 4 x by rw [fieldsB, k4])
        clear n1 k1 k2 k3 k4
        cases hB : branchB x with
        | false =>
          go_wp2_with (first
            | (go_at_call 47; (with_reducible refine (there_any x.br x.vol x.blk _).mono ?_); rintro e w8 ⟨rfl, hb⟩; rw [hT]; replace c6 := pw_cell_below hb c6; replace c10 := pw_cell_below hb c10; replace HB := Aside0.mk (HB.out.trans (hb.mono HB.out.size)); clear hb)
            | (go_at_call 44; first | ((with_reducible refine (within_any x.vol 15 _).mono ?_); rintro e w9 ⟨rfl, rfl⟩; rw [hW]) | ((with_reducible refine (within_any x.fr x.to _).mono ?_); rintro e w9 ⟨rfl, rfl⟩; rw [hF]) | ((with_reducible refine (within_any x.to 1073741824 _).mono ?_); rintro e w9 ⟨rfl, rfl⟩; rw [hO]) | ((with_reducible refine (within_any x.un 1073741824 _).mono ?_); rintro e w9 ⟨rfl, rfl⟩; rw [hU])))
          go_ret
          exact ⟨retB (by rw [HKD.out]; simp [fieldsK, hB]), HB.out⟩
        | true =>
          cases hW : within x.vol 15 with
          | false =>
            go_wp2_with (first
              | (go_at_call 47; (with_reducible refine (there_any x.br x.vol x.blk _).mono ?_); rintro e w8 ⟨rfl, hb⟩; rw [hT]; replace c6 := pw_cell_below hb c6; replace c10 := pw_cell_below hb c10; replace HB := Aside0.mk (HB.out.trans (hb.mono HB.out.size)); clear hb)
              | (go_at_call 44; first | ((with_reducible refine (within_any x.vol 15 _).mono ?_); rintro e w9 ⟨rfl, rfl⟩; rw [hW]) | ((with_reducible refine (within_any x.fr x.to _).mono ?_); rintro e w9 ⟨rfl, rfl⟩; rw [hF]) | ((with_reducible refine (within_any x.to 1073741824 _).mono ?_); rintro e w9 ⟨rfl, rfl⟩; rw [hO]) | ((with_reducible refine (within_any x.un 1073741824 _).mono ?_); rintro e w9 ⟨rfl, rfl⟩; rw [hU])))
            go_ret
            exact ⟨retB (by rw [HKD.out]; simp [fieldsK, hB, hW]), HB.out⟩
          | true =>
            by_cases hV : ¬ x.vol = x.br
            · have gV : (x.vol == x.br) = false := beq_eq_false_iff_ne.2 hV
              by_cases hK : x.blk = 0
              · have gK : (x.blk == 0) = true := beq_iff_eq.2 hK
                cases hE : elderB x with
                | false =>
                  go_wp2_with (first
                    | (go_at_call 47; (with_reducible refine (there_any x.br x.vol x.blk _).mono ?_); rintro e w8 ⟨rfl, hb⟩; rw [hT]; replace c6 := pw_cell_below hb c6; replace c10 := pw_cell_below hb c10; replace HB := Aside0.mk (HB.out.trans (hb.mono HB.out.size)); clear hb)
                    | (go_at_call 44; first | ((with_reducible refine (within_any x.vol 15 _).mono ?_); rintro e w9 ⟨rfl, rfl⟩; rw [hW]) | ((with_reducible refine (within_any x.fr x.to _).mono ?_); rintro e w9 ⟨rfl, rfl⟩; rw [hF]) | ((with_reducible refine (within_any x.to 1073741824 _).mono ?_); rintro e w9 ⟨rfl, rfl⟩; rw [hO]) | ((with_reducible refine (within_any x.un 1073741824 _).mono ?_); rintro e w9 ⟨rfl, rfl⟩; rw [hU])))
                  go_ret
                  exact ⟨retB (by rw [HKD.out]; simp [fieldsK, hB, hW, hV, gV, hK, gK, hE]), HB.out⟩
                | true =>
                  go_wp2_with (first
                    | (go_at_call 47; (with_reducible refine (there_any x.br x.vol x.blk _).mono ?_); rintro e w8 ⟨rfl, hb⟩; rw [hT]; replace c6 := pw_cell_below hb c6; replace c10 := pw_cell_below hb c10; replace HB := Aside0.mk (HB.out.trans (hb.mono HB.out.size)); clear hb)
                    | (go_at_call 44; first | ((with_reducible refine (within_any x.vol 15 _).mono ?_); rintro e w9 ⟨rfl, rfl⟩; rw [hW]) | ((with_reducible refine (within_any x.fr x.to _).mono ?_); rintro e w9 ⟨rfl, rfl⟩; rw [hF]) | ((with_reducible refine (within_any x.to 1073741824 _).mono ?_); rintro e w9 ⟨rfl, rfl⟩; rw [hO]) | ((with_reducible refine (within_any x.un 1073741824 _).mono ?_); rintro e w9 ⟨rfl, rfl⟩; rw [hU])))
                  go_ret
                  exact ⟨retB (by rw [HKD.out]; simp [fieldsK, hB, hW, hV, gV, hK, gK, hE]), HB.out⟩
              · have gK : (x.blk == 0) = false := beq_eq_false_iff_ne.2 hK
                go_wp2_with (first
                  | (go_at_call 47; (with_reducible refine (there_any x.br x.vol x.blk _).mono ?_); rintro e w8 ⟨rfl, hb⟩; rw [hT]; replace c6 := pw_cell_below hb c6; replace c10 := pw_cell_below hb c10; replace HB := Aside0.mk (HB.out.trans (hb.mono HB.out.size)); clear hb)
                  | (go_at_call 44; first | ((with_reducible refine (within_any x.vol 15 _).mono ?_); rintro e w9 ⟨rfl, rfl⟩; rw [hW]) | ((with_reducible refine (within_any x.fr x.to _).mono ?_); rintro e w9 ⟨rfl, rfl⟩; rw [hF]) | ((with_reducible refine (within_any x.to 1073741824 _).mono ?_); rintro e w9 ⟨rfl, rfl⟩; rw [hO]) | ((with_reducible refine (within_any x.un 1073741824 _).mono ?_); rintro e w9 ⟨rfl, rfl⟩; rw [hU])))
                go_ret
                exact ⟨retB (by rw [HKD.out]; simp [fieldsK, hB, hW, hV, gV, hK, gK]), HB.out⟩
            · have gV : (x.vol == x.br) = true := beq_iff_eq.2 (Decidable.not_not.1 hV)
              go_wp2_with (first
                | (go_at_call 47; (with_reducible refine (there_any x.br x.vol x.blk _).mono ?_); rintro e w8 ⟨rfl, hb⟩; rw [hT]; replace c6 := pw_cell_below hb c6; replace c10 := pw_cell_below hb c10; replace HB := Aside0.mk (HB.out.trans (hb.mono HB.out.size)); clear hb)
                | (go_at_call 44; first | ((with_reducible refine (within_any x.vol 15 _).mono ?_); rintro e w9 ⟨rfl, rfl⟩; rw [hW]) | ((with_reducible refine (within_any x.fr x.to _).mono ?_); rintro e w9 ⟨rfl, rfl⟩; rw [hF]) | ((with_reducible refine (within_any x.to 1073741824 _).mono ?_); rintro e w9 ⟨rfl, rfl⟩; rw [hO]) | ((with_reducible refine (within_any x.un 1073741824 _).mono ?_); rintro e w9 ⟨rfl, rfl⟩; rw [hU])))
              go_ret
              exact ⟨retB (by rw [HKD.out]; simp [fieldsK, hB, hW, hV, gV]), HB.out⟩
      have f4 : (x.kind == 4) = false := beq_eq_false_iff_ne.2 k4
      by_cases k5 : x.kind = 5
      · have f5 : (x.kind == 5) = true := beq_iff_eq.2 k5
        have HKD := Aside0.mk (show fieldsB x = fieldsK 5 x by rw [fieldsB, k5])
        clear n1 k1 k2 k3 k4 k5
        cases hB : branchB x with
        | false =>
          go_wp2_with (first
            | (go_at_call 47; (with_reducible refine (there_any x.br x.vol x.blk _).mono ?_); rintro e w8 ⟨rfl, hb⟩; rw [hT]; replace c6 := pw_cell_below hb c6; replace c10 := pw_cell_below hb c10; replace HB := Aside0.mk (HB.out.trans (hb.mono HB.out.size)); clear hb)
            | (go_at_call 44; first | ((with_reducible refine (within_any x.vol 15 _).mono ?_); rintro e w9 ⟨rfl, rfl⟩; rw [hW]) | ((with_reducible refine (within_any x.fr x.to _).mono ?_); rintro e w9 ⟨rfl, rfl⟩; rw [hF]) | ((with_reducible refine (within_any x.to 1073741824 _).mono ?_); rintro e w9 ⟨rfl, rfl⟩; rw [hO]) | ((with_reducible refine (within_any x.un 1073741824 _).mono ?_); rintro e w9 ⟨rfl, rfl⟩; rw [hU])))
          go_ret
          exact ⟨retB (by rw [HKD.out]; simp [fieldsK, hB]), HB.out⟩
        | true =>
          by_cases hV : x.vol = 0
          · have gV : (x.vol == 0) = true := beq_iff_eq.2 hV
            by_cases hK : x.blk = 0
            · have gK : (x.blk == 0) = true := beq_iff_eq.2 hK
              go_wp2_with (first
                | (go_at_call 47; (with_reducible refine (there_any x.br x.vol x.blk _).mono ?_); rintro e w8 ⟨rfl, hb⟩; rw [hT]; replace c6 := pw_cell_below hb c6; replace c10 := pw_cell_below hb c10; replace HB := Aside0.mk (HB.out.trans (hb.mono HB.out.size)); clear hb)
                | (go_at_call 44; first | ((with_reducible refine (within_any x.vol 15 _).mono ?_); rintro e w9 ⟨rfl, rfl⟩; rw [hW]) | ((with_reducible refine (within_any x.fr x.to _).mono ?_); rintro e w9 ⟨rfl, rfl⟩; rw [hF]) | ((with_reducible refine (within_any x.to 1073741824 _).mono ?_); rintro e w9 ⟨rfl, rfl⟩; rw [hO]) | ((with_reducible refine (within_any x.un 1073741824 _).mono ?_); rintro e w9 ⟨rfl, rfl⟩; rw [hU])))
              go_ret
              exact ⟨retB (by rw [HKD.out]; simp [fieldsK, hB, hV, gV, hK, gK]), HB.out⟩
            · have gK : (x.blk == 0) = false := beq_eq_false_iff_ne.2 hK
              go_wp2_with (first
                | (go_at_call 47; (with_reducible refine (there_any x.br x.vol x.blk _).mono ?_); rintro e w8 ⟨rfl, hb⟩; rw [hT]; replace c6 := pw_cell_below hb c6; replace c10 := pw_cell_below hb c10; replace HB := Aside0.mk (HB.out.trans (hb.mono HB.out.size)); clear hb)
                | (go_at_call 44; first | ((with_reducible refine (within_any x.vol 15 _).mono ?_); rintro e w9 ⟨rfl, rfl⟩; rw [hW]) | ((with_reducible refine (within_any x.fr x.to _).mono ?_); rintro e w9 ⟨rfl, rfl⟩; rw [hF]) | ((with_reducible refine (within_any x.to 1073741824 _).mono ?_); rintro e w9 ⟨rfl, rfl⟩; rw [hO]) | ((with_reducible refine (within_any x.un 1073741824 _).mono ?_); rintro e w9 ⟨rfl, rfl⟩; rw [hU])))
              go_ret
              exact ⟨retB (by rw [HKD.out]; simp [fieldsK, hB, hV, gV, hK, gK]), HB.out⟩
          · have gV : (x.vol == 0) = false := beq_eq_false_iff_ne.2 hV
            go_wp2_with (first
              | (go_at_call 47; (with_reducible refine (there_any x.br x.vol x.blk _).mono ?_); rintro e w8 ⟨rfl, hb⟩; rw [hT]; replace c6 := pw_cell_below hb c6; replace c10 := pw_cell_below hb c10; replace HB := Aside0.mk (HB.out.trans (hb.mono HB.out.size)); clear hb)
              | (go_at_call 44; first | ((with_reducible refine (within_any x.vol 15 _).mono ?_); rintro e w9 ⟨rfl, rfl⟩; rw [hW]) | ((with_reducible refine (within_any x.fr x.to _).mono ?_); rintro e w9 ⟨rfl, rfl⟩; rw [hF]) | ((with_reducible refine (within_any x.to 1073741824 _).mono ?_); rintro e w9 ⟨rfl, rfl⟩; rw [hO]) | ((with_reducible refine (within_any x.un 1073741824 _).mono ?_); rintro e w9 ⟨rfl, rfl⟩; rw [hU])))
            go_ret
            exact ⟨retB (by rw [HKD.out]; simp [fieldsK, hB, hV, gV]), HB.out⟩
      have f5 : (x.kind == 5) = false := beq_eq_false_iff_ne.2 k5
      by_cases k6 : x.kind = 6
      · have f6 : (x.kind == 6) = true := beq_iff_eq.2 k6
        have HKD := Aside0.mk (show fieldsB x = fieldsK 6 x by rw [fieldsB, k6])
        clear n1 k1 k2 k3 k4 k5 k6
        by_cases hR : 1 ≤ x.ref
        · have gR : decide (1 ≤ x.ref) = true := decide_eq_true hR
          by_cases hS : x.ref ≤ 65535
          · have gS : decide (x.ref ≤ 65535) = true := decide_eq_true hS
            cases hF : within x.fr x.to with
            | false =>
              go_wp2_with (first
                | (go_at_call 47; (with_reducible refine (there_any x.br x.vol x.blk _).mono ?_); rintro e w8 ⟨rfl, hb⟩; rw [hT]; replace c6 := pw_cell_below hb c6; replace c10 := pw_cell_below hb c10; replace HB := Aside0.mk (HB.out.trans (hb.mono HB.out.size)); clear hb)
                | (go_at_call 44; first | ((with_reducible refine (within_any x.vol 15 _).mono ?_); rintro e w9 ⟨rfl, rfl⟩; rw [hW]) | ((with_reducible refine (within_any x.fr x.to _).mono ?_); rintro e w9 ⟨rfl, rfl⟩; rw [hF]) | ((with_reducible refine (within_any x.to 1073741824 _).mono ?_); rintro e w9 ⟨rfl, rfl⟩; rw [hO]) | ((with_reducible refine (within_any x.un 1073741824 _).mono ?_); rintro e w9 ⟨rfl, rfl⟩; rw [hU])))
              go_ret
              exact ⟨retB (by rw [HKD.out]; simp [fieldsK, hR, gR, hS, gS, hF]), HB.out⟩
            | true =>
              cases hO : within x.to 1073741824 with
              | false =>
                go_wp2_with (first
                  | (go_at_call 47; (with_reducible refine (there_any x.br x.vol x.blk _).mono ?_); rintro e w8 ⟨rfl, hb⟩; rw [hT]; replace c6 := pw_cell_below hb c6; replace c10 := pw_cell_below hb c10; replace HB := Aside0.mk (HB.out.trans (hb.mono HB.out.size)); clear hb)
                  | (go_at_call 44; first | ((with_reducible refine (within_any x.vol 15 _).mono ?_); rintro e w9 ⟨rfl, rfl⟩; rw [hW]) | ((with_reducible refine (within_any x.fr x.to _).mono ?_); rintro e w9 ⟨rfl, rfl⟩; rw [hF]) | ((with_reducible refine (within_any x.to 1073741824 _).mono ?_); rintro e w9 ⟨rfl, rfl⟩; rw [hO]) | ((with_reducible refine (within_any x.un 1073741824 _).mono ?_); rintro e w9 ⟨rfl, rfl⟩; rw [hU])))
                go_ret
                exact ⟨retB (by rw [HKD.out]; simp [fieldsK, hR, gR, hS, gS, hF, hO]), HB.out⟩
              | true =>
                cases hU : within x.un 1073741824 with
                | false =>
                  go_wp2_with (first
                    | (go_at_call 47; (with_reducible refine (there_any x.br x.vol x.blk _).mono ?_); rintro e w8 ⟨rfl, hb⟩; rw [hT]; replace c6 := pw_cell_below hb c6; replace c10 := pw_cell_below hb c10; replace HB := Aside0.mk (HB.out.trans (hb.mono HB.out.size)); clear hb)
                    | (go_at_call 44; first | ((with_reducible refine (within_any x.vol 15 _).mono ?_); rintro e w9 ⟨rfl, rfl⟩; rw [hW]) | ((with_reducible refine (within_any x.fr x.to _).mono ?_); rintro e w9 ⟨rfl, rfl⟩; rw [hF]) | ((with_reducible refine (within_any x.to 1073741824 _).mono ?_); rintro e w9 ⟨rfl, rfl⟩; rw [hO]) | ((with_reducible refine (within_any x.un 1073741824 _).mono ?_); rintro e w9 ⟨rfl, rfl⟩; rw [hU])))
                  go_ret
                  exact ⟨retB (by rw [HKD.out]; simp [fieldsK, hR, gR, hS, gS, hF, hO, hU]), HB.out⟩
                | true =>
                  go_wp2_with (first
                    | (go_at_call 47; (with_reducible refine (there_any x.br x.vol x.blk _).mono ?_); rintro e w8 ⟨rfl, hb⟩; rw [hT]; replace c6 := pw_cell_below hb c6; replace c10 := pw_cell_below hb c10; replace HB := Aside0.mk (HB.out.trans (hb.mono HB.out.size)); clear hb)
                    | (go_at_call 44; first | ((with_reducible refine (within_any x.vol 15 _).mono ?_); rintro e w9 ⟨rfl, rfl⟩; rw [hW]) | ((with_reducible refine (within_any x.fr x.to _).mono ?_); rintro e w9 ⟨rfl, rfl⟩; rw [hF]) | ((with_reducible refine (within_any x.to 1073741824 _).mono ?_); rintro e w9 ⟨rfl, rfl⟩; rw [hO]) | ((with_reducible refine (within_any x.un 1073741824 _).mono ?_); rintro e w9 ⟨rfl, rfl⟩; rw [hU])))
                  go_ret
                  exact ⟨retB (by rw [HKD.out]; simp [fieldsK, hR, gR, hS, gS, hF, hO, hU]), HB.out⟩
          · have gS : decide (x.ref ≤ 65535) = false := decide_eq_false hS
            go_wp2_with (first
              | (go_at_call 47; (with_reducible refine (there_any x.br x.vol x.blk _).mono ?_); rintro e w8 ⟨rfl, hb⟩; rw [hT]; replace c6 := pw_cell_below hb c6; replace c10 := pw_cell_below hb c10; replace HB := Aside0.mk (HB.out.trans (hb.mono HB.out.size)); clear hb)
              | (go_at_call 44; first | ((with_reducible refine (within_any x.vol 15 _).mono ?_); rintro e w9 ⟨rfl, rfl⟩; rw [hW]) | ((with_reducible refine (within_any x.fr x.to _).mono ?_); rintro e w9 ⟨rfl, rfl⟩; rw [hF]) | ((with_reducible refine (within_any x.to 1073741824 _).mono ?_); rintro e w9 ⟨rfl, rfl⟩; rw [hO]) | ((with_reducible refine (within_any x.un 1073741824 _).mono ?_); rintro e w9 ⟨rfl, rfl⟩; rw [hU])))
            go_ret
            exact ⟨retB (by rw [HKD.out]; simp [fieldsK, hR, gR, hS, gS]), HB.out⟩
        · have gR : decide (1 ≤ x.ref) = false := decide_eq_false hR
          go_wp2_with (first
            | (go_at_call 47; (with_reducible refine (there_any x.br x.vol x.blk _).mono ?_); rintro e w8 ⟨rfl, hb⟩; rw [hT]; replace c6 := pw_cell_below hb c6; replace c10 := pw_cell_below hb c10; replace HB := Aside0.mk (HB.out.trans (hb.mono HB.out.size)); clear hb)
            | (go_at_call 44; first | ((with_reducible refine (within_any x.vol 15 _).mono ?_); rintro e w9 ⟨rfl, rfl⟩; rw [hW]) | ((with_reducible refine (within_any x.fr x.to _).mono ?_); rintro e w9 ⟨rfl, rfl⟩; rw [hF]) | ((with_reducible refine (within_any x.to 1073741824 _).mono ?_); rintro e w9 ⟨rfl, rfl⟩; rw [hO]) | ((with_reducible refine (within_any x.un 1073741824 _).mono ?_); rintro e w9 ⟨rfl, rfl⟩; rw [hU])))
          go_ret
          exact ⟨retB (by rw [HKD.out]; simp [fieldsK, hR, gR]), HB.out⟩
      have f6 : (x.kind == 6) = false := beq_eq_false_iff_ne.2 k6
      by_cases k7 : x.kind = 7
      · have f7 : (x.kind == 7) = true := beq_iff_eq.2 k7
        have HKD := Aside0.mk (show fieldsB x = fieldsK 7 x by rw [fieldsB, k7])
        clear n1 k1 k2 k3 k4 k5 k6 k7
        by_cases hR : 1 ≤ x.ref
        · have gR : decide (1 ≤ x.ref) = true := decide_eq_true hR
          by_cases hS : x.ref ≤ 65535
          · have gS : decide (x.ref ≤ 65535) = true := decide_eq_true hS
            go_wp2_with (first
              | (go_at_call 47; (with_reducible refine (there_any x.br x.vol x.blk _).mono ?_); rintro e w8 ⟨rfl, hb⟩; rw [hT]; replace c6 := pw_cell_below hb c6; replace c10 := pw_cell_below hb c10; replace HB := Aside0.mk (HB.out.trans (hb.mono HB.out.size)); clear hb)
              | (go_at_call 44; first | ((with_reducible refine (within_any x.vol 15 _).mono ?_); rintro e w9 ⟨rfl, rfl⟩; rw [hW]) | ((with_reducible refine (within_any x.fr x.to _).mono ?_); rintro e w9 ⟨rfl, rfl⟩; rw [hF]) | ((with_reducible refine (within_any x.to 1073741824 _).mono ?_); rintro e w9 ⟨rfl, rfl⟩; rw [hO]) | ((with_reducible refine (within_any x.un 1073741824 _).mono ?_); rintro e w9 ⟨rfl, rfl⟩; rw [hU])))
            go_ret
            exact ⟨retB (by rw [HKD.out]; simp [fieldsK, hR, gR, hS, gS]), HB.out⟩
          · have gS : decide (x.ref ≤ 65535) = false := decide_eq_false hS
            go_wp2_with (first
              | (go_at_call 47; (with_reducible refine (there_any x.br x.vol x.blk _).mono ?_); rintro e w8 ⟨rfl, hb⟩; rw [hT]; replace c6 := pw_cell_below hb c6; replace c10 := pw_cell_below hb c10; replace HB := Aside0.mk (HB.out.trans (hb.mono HB.out.size)); clear hb)
              | (go_at_call 44; first | ((with_reducible refine (within_any x.vol 15 _).mono ?_); rintro e w9 ⟨rfl, rfl⟩; rw [hW]) | ((with_reducible refine (within_any x.fr x.to _).mono ?_); rintro e w9 ⟨rfl, rfl⟩; rw [hF]) | ((with_reducible refine (within_any x.to 1073741824 _).mono ?_); rintro e w9 ⟨rfl, rfl⟩; rw [hO]) | ((with_reducible refine (within_any x.un 1073741824 _).mono ?_); rintro e w9 ⟨rfl, rfl⟩; rw [hU])))
            go_ret
            exact ⟨retB (by rw [HKD.out]; simp [fieldsK, hR, gR, hS, gS]), HB.out⟩
        · have gR : decide (1 ≤ x.ref) = false := decide_eq_false hR
          go_wp2_with (first
            | (go_at_call 47; (with_reducible refine (there_any x.br x.vol x.blk _).mono ?_); rintro e w8 ⟨rfl, hb⟩; rw [hT]; replace c6 := pw_cell_below hb c6; replace c10 := pw_cell_below hb c10; replace HB := Aside0.mk (HB.out.trans (hb.mono HB.out.size)); clear hb)
            | (go_at_call 44; first | ((with_reducible refine (within_any x.vol 15 _).mono ?_); rintro e w9 ⟨rfl, rfl⟩; rw [hW]) | ((with_reducible refine (within_any x.fr x.to _).mono ?_); rintro e w9 ⟨rfl, rfl⟩; rw [hF]) | ((with_reducible refine (within_any x.to 1073741824 _).mono ?_); rintro e w9 ⟨rfl, rfl⟩; rw [hO]) | ((with_reducible refine (within_any x.un 1073741824 _).mono ?_); rintro e w9 ⟨rfl, rfl⟩; rw [hU])))
          go_ret
          exact ⟨retB (by rw [HKD.out]; simp [fieldsK, hR, gR]), HB.out⟩
      have f7 : (x.kind == 7) = false := beq_eq_false_iff_ne.2 k7
      have HKD := Aside0.mk (show fieldsB x = true by rw [fieldsB, fieldsK, if_neg k1, if_neg k2, if_neg k3, if_neg k4, if_neg k5, if_neg k6, if_neg k7])
      clear n1 k1 k2 k3 k4 k5 k6 k7
      go_wp2
      go_ret
      exact ⟨retB HKD.out.symm, HB.out⟩
end Go.Proofs.Ytghcnipehgjegaa.Cell
