/- What Right of the reference of layer 12 answers. Conditions stand in each statement. -/
import Derived.Test.YtghcnipehgjegaaCellRefs
import Derived.Test.YtghcnipehgjegaaCellRefSame
namespace Go.Proofs.Ytghcnipehgjegaa.Cell
open Go.RowKit Go.Proofs.YtghcnipehgjegaaW.PrintWords Go.Proofs.YtghcnipehgjegaaW.PrintLast Go.Proofs.YtghcnipehgjegaaW.PrintMore Go.Proofs.Ytghcnipehgjegaa.Kit Go.Proofs.Ytghcnipehgjegaa.Plain Go.Proofs.Ytghcnipehgjegaa.Wire
set_option linter.unusedVariables false
set_option linter.unusedSimpArgs false
def numOk (x : Cel) : Bool := decide (1 ≤ x.num) && (decide (x.num ≤ 65535) && within x.min 1073741824)
theorem rr1 (x : Cel) (hk : x.kind = 1) (hn : numOk x = true) : rightB x = (((thereB x.br x.vol x.blk) && ((decide (x.ref ≤ 1)) && (decide ((x.body.length : Int) = 32)))) && sameB x ⟨x.kind, x.num, x.min, x.br, x.vol, x.blk, x.ref, 0, 0, 0, x.body⟩) := by
  have hs : sameB x (keepC x) = sameB x ⟨x.kind, x.num, x.min, x.br, x.vol, x.blk, x.ref, 0, 0, 0, x.body⟩ := by simp only [keepC, hk, show hasPlace 1 = true from rfl, show hasRef 1 = true from rfl, show hasMin 1 = false from rfl, show hasBody 1 = true from rfl, show hasKind 1 = true from rfl, if_true, Bool.false_eq_true, if_false]
  unfold numOk at hn
  simp only [Bool.and_eq_true] at hn
  obtain ⟨hn1, hn2, hn3⟩ := hn
  rw [rightB, hs, hn1, hn2, hn3, show hasKind x.kind = true by rw [hk]; rfl, fieldsB, hk]
  simp only [fieldsK, Bool.true_and, if_true, if_false]
  generalize sameB x _ = s_
  generalize thereB x.br x.vol x.blk = b0
  generalize decide (x.ref ≤ 1) = b1
  generalize decide ((x.body.length : Int) = 32) = b2
  cases s_ <;> cases b0 <;> cases b1 <;> cases b2 <;> rfl
set_option maxHeartbeats 6400000 in
set_option maxRecDepth 100000 in
theorem refright_1 (x : Cel) (A : Option Addr) (c : Nat) (w : World) (hr : RdN w A x.body.length x.body) (hy : Byt x.body) (n1 : decide (x.num < 1) = false) (n2 : decide (65535 < x.num) = false) (hM : within x.min 1073741824 = true) (f1 : (x.kind == 1) = true) (HKD : Aside0 (rightB x = (((thereB x.br x.vol x.blk) && ((decide (x.ref ≤ 1)) && (decide ((x.body.length : Int) = 32)))) && sameB x ⟨x.kind, x.num, x.min, x.br, x.vol, x.blk, x.ref, 0, 0, 0, x.body⟩))) :
    Calls Try.prog 10 #[.agg (celA x A c)] w fun e w' => e = .returned (.bool (rightB x)) ∧ Below w.heap.size w w' := by
  have HR := Aside0.mk hr
  have HY := Aside0.mk hy
  clear hr hy
  go_enter Try.func10, Try.ntmps10
  go_upto_region 4 with (go_at_call 22; go_must (refine (minute_any x.min _).mono ?_; rintro e w4 ⟨rfl, rfl⟩; rw [hM]))
  go_cut [4] from 27 to 36 (fun v wx => v = .bool (elderB x) ∧ wx = ((w.alloc (.cells (celA x A c) 30)).alloc (.cells #[.int .i64 x.kind, .int .u64 x.num, .int .i64 x.min, .int .i64 0, .int .i64 0, .int .i64 0, .int .u64 0, .int .i64 0, .int .i64 0, .int .i64 0, .slice none 0 0] 30)))
  case first =>
    by_cases h1 : 1 ≤ x.ref
    · by_cases h2 : x.ref < x.num
      · have f1 : decide (1 ≤ x.ref) = true := decide_eq_true h1
        have f2 : decide (x.ref < x.num) = true := decide_eq_true h2
        have HE := Aside0.mk (show elderB x = true from decide_eq_true ⟨h1, h2⟩)
        clear h1 h2
        go_wp2
        go_meet
        case rel => exact ⟨by rw [HE.out], rfl⟩
      · have f1 : decide (1 ≤ x.ref) = true := decide_eq_true h1
        have f2 : decide (x.ref < x.num) = false := decide_eq_false h2
        have HE := Aside0.mk (show elderB x = false from decide_eq_false (fun h => h2 h.2))
        clear h1 h2
        go_wp2
        go_meet
        case rel => exact ⟨by rw [HE.out], rfl⟩
    · have f1 : decide (1 ≤ x.ref) = false := decide_eq_false h1
      have HE := Aside0.mk (show elderB x = false from decide_eq_false (fun h => h1 h.1))
      clear h1
      go_wp2
      go_meet
      case rel => exact ⟨by rw [HE.out], rfl⟩
  case rest =>
    obtain ⟨rfl, rfl⟩ := hcut
    go_upto_region 8 with (fail)
    go_wp2_with (fail)
    go_region
    go_upto_region 9 with (fail)
    obtain ⟨W2, hW2⟩ : ∃ W2, W2 = ((w.alloc (.cells (celA x A c) 30)).alloc (.cells #[.int .i64 x.kind, .int .u64 x.num, .int .i64 x.min, .int .i64 x.br, .int .i64 x.vol, .int .i64 x.blk, .int .u64 x.ref, .int .i64 0, .int .i64 0, .int .i64 0, .slice A x.body.length c] 30)).drew := ⟨_, rfl⟩
    rw [← hW2]
    obtain ⟨hq1, hq2⟩ := two_blk w x ⟨x.kind, x.num, x.min, x.br, x.vol, x.blk, x.ref, 0, 0, 0, x.body⟩ A A c c
    have HX2 := Aside0.mk (show W2.heap[w.heap.size]? = some (.cells (celA x A c) 30 (0, 0)) by rw [hW2]; exact hq1)
    have HD2 := Aside0.mk (show W2.heap[w.heap.size + 1]? = some (.cells (celA ⟨x.kind, x.num, x.min, x.br, x.vol, x.blk, x.ref, 0, 0, 0, x.body⟩ A c) 30 (0, 0)) by rw [hW2]; exact hq2)
    have HB := Aside0.mk (show Below w.heap.size w W2 by rw [hW2]; exact below_drew (below_alloc (below_alloc (Below.refl _ _) _) _))
    have hx := HX2.out
    have hd := HD2.out
    obtain ⟨c0, c1, c2, c3, c4, c5, c6, c7, c8, c9⟩ := cel_at (x := x) (A := A) (c := c) hx; have c10 : W2.cell? ⟨w.heap.size, 10, none⟩ = some (.slice A x.body.length c) := blk_cell hx 10
    obtain ⟨d0, d1, d2, d3, d4, d5, d6, d7, d8, d9⟩ := cel_at (x := ⟨x.kind, x.num, x.min, x.br, x.vol, x.blk, x.ref, 0, 0, 0, x.body⟩) (A := A) (c := c) hd
    have d10 : W2.cell? ⟨w.heap.size + 1, 10, none⟩ = some (.slice A x.body.length c) := blk_cell hd 10
    simp only at d0 d1 d2 d3 d4 d5 d6 d7 d8 d9
    clear hW2 hq1 hq2 hx hd HX2 HD2
    cases hT : thereB x.br x.vol x.blk with
    | false =>
      have HE := Aside0.mk (show rightB x = false by rw [HKD.out]; simp [hT])
      go_wp2_with (first | (go_at_call 24; go_must (refine (refsame_any x ⟨x.kind, x.num, x.min, x.br, x.vol, x.blk, x.ref, 0, 0, 0, x.body⟩ A A c c _ (Kd.C_below HR.out HB.out) (Kd.C_below HR.out HB.out) HY.out HY.out).mono ?_; rintro e w3 ⟨rfl, hb⟩; replace HB := Aside0.mk (HB.out.trans (hb.mono HB.out.size)); clear hb)) | (go_at_call 23; go_must (refine (refthere_any x.br x.vol x.blk _).mono ?_; rintro e w8 ⟨rfl, hb⟩; rw [hT]; replace c0 := pw_cell_below hb c0; replace c1 := pw_cell_below hb c1; replace c2 := pw_cell_below hb c2; replace c3 := pw_cell_below hb c3; replace c4 := pw_cell_below hb c4; replace c5 := pw_cell_below hb c5; replace c6 := pw_cell_below hb c6; replace c7 := pw_cell_below hb c7; replace c8 := pw_cell_below hb c8; replace c9 := pw_cell_below hb c9; replace c10 := pw_cell_below hb c10; replace d0 := pw_cell_below hb d0; replace d1 := pw_cell_below hb d1; replace d2 := pw_cell_below hb d2; replace d3 := pw_cell_below hb d3; replace d4 := pw_cell_below hb d4; replace d5 := pw_cell_below hb d5; replace d6 := pw_cell_below hb d6; replace d7 := pw_cell_below hb d7; replace d8 := pw_cell_below hb d8; replace d9 := pw_cell_below hb d9; replace d10 := pw_cell_below hb d10; replace HB := Aside0.mk (HB.out.trans (hb.mono HB.out.size)); clear hb)))
      go_ret
      exact ⟨retB HE.out.symm, HB.out⟩
    | true =>
      by_cases hR : x.ref ≤ 1
      · have gR : decide (x.ref ≤ 1) = true := decide_eq_true hR
        by_cases hL : (x.body.length : Int) = 32
        · have gL : ((x.body.length : Int) == 32) = true := beq_iff_eq.2 hL
          have HE := Aside0.mk (show rightB x = sameB x ⟨x.kind, x.num, x.min, x.br, x.vol, x.blk, x.ref, 0, 0, 0, x.body⟩ by rw [HKD.out]; simp [hT, hR, hL])
          go_wp2_with (first | (go_at_call 24; go_must (refine (refsame_any x ⟨x.kind, x.num, x.min, x.br, x.vol, x.blk, x.ref, 0, 0, 0, x.body⟩ A A c c _ (Kd.C_below HR.out HB.out) (Kd.C_below HR.out HB.out) HY.out HY.out).mono ?_; rintro e w3 ⟨rfl, hb⟩; replace HB := Aside0.mk (HB.out.trans (hb.mono HB.out.size)); clear hb)) | (go_at_call 23; go_must (refine (refthere_any x.br x.vol x.blk _).mono ?_; rintro e w8 ⟨rfl, hb⟩; rw [hT]; replace c0 := pw_cell_below hb c0; replace c1 := pw_cell_below hb c1; replace c2 := pw_cell_below hb c2; replace c3 := pw_cell_below hb c3; replace c4 := pw_cell_below hb c4; replace c5 := pw_cell_below hb c5; replace c6 := pw_cell_below hb c6; replace c7 := pw_cell_below hb c7; replace c8 := pw_cell_below hb c8; replace c9 := pw_cell_below hb c9; replace c10 := pw_cell_below hb c10; replace d0 := pw_cell_below hb d0; replace d1 := pw_cell_below hb d1; replace d2 := pw_cell_below hb d2; replace d3 := pw_cell_below hb d3; replace d4 := pw_cell_below hb d4; replace d5 := pw_cell_below hb d5; replace d6 := pw_cell_below hb d6; replace d7 := pw_cell_below hb d7; replace d8 := pw_cell_below hb d8; replace d9 := pw_cell_below hb d9; replace d10 := pw_cell_below hb d10; replace HB := Aside0.mk (HB.out.trans (hb.mono HB.out.size)); clear hb)))
          go_ret
          exact ⟨retB HE.out.symm, HB.out⟩
        · have gL : ((x.body.length : Int) == 32) = false := beq_eq_false_iff_ne.2 hL
          have HE := Aside0.mk (show rightB x = false by rw [HKD.out]; simp [hT, hR, hL])
          go_wp2_with (first | (go_at_call 24; go_must (refine (refsame_any x ⟨x.kind, x.num, x.min, x.br, x.vol, x.blk, x.ref, 0, 0, 0, x.body⟩ A A c c _ (Kd.C_below HR.out HB.out) (Kd.C_below HR.out HB.out) HY.out HY.out).mono ?_; rintro e w3 ⟨rfl, hb⟩; replace HB := Aside0.mk (HB.out.trans (hb.mono HB.out.size)); clear hb)) | (go_at_call 23; go_must (refine (refthere_any x.br x.vol x.blk _).mono ?_; rintro e w8 ⟨rfl, hb⟩; rw [hT]; replace c0 := pw_cell_below hb c0; replace c1 := pw_cell_below hb c1; replace c2 := pw_cell_below hb c2; replace c3 := pw_cell_below hb c3; replace c4 := pw_cell_below hb c4; replace c5 := pw_cell_below hb c5; replace c6 := pw_cell_below hb c6; replace c7 := pw_cell_below hb c7; replace c8 := pw_cell_below hb c8; replace c9 := pw_cell_below hb c9; replace c10 := pw_cell_below hb c10; replace d0 := pw_cell_below hb d0; replace d1 := pw_cell_below hb d1; replace d2 := pw_cell_below hb d2; replace d3 := pw_cell_below hb d3; replace d4 := pw_cell_below hb d4; replace d5 := pw_cell_below hb d5; replace d6 := pw_cell_below hb d6; replace d7 := pw_cell_below hb d7; replace d8 := pw_cell_below hb d8; replace d9 := pw_cell_below hb d9; replace d10 := pw_cell_below hb d10; replace HB := Aside0.mk (HB.out.trans (hb.mono HB.out.size)); clear hb)))
          go_ret
          exact ⟨retB HE.out.symm, HB.out⟩
      · have gR : decide (x.ref ≤ 1) = false := decide_eq_false hR
        have HE := Aside0.mk (show rightB x = false by rw [HKD.out]; simp [hT, hR])
        go_wp2_with (first | (go_at_call 24; go_must (refine (refsame_any x ⟨x.kind, x.num, x.min, x.br, x.vol, x.blk, x.ref, 0, 0, 0, x.body⟩ A A c c _ (Kd.C_below HR.out HB.out) (Kd.C_below HR.out HB.out) HY.out HY.out).mono ?_; rintro e w3 ⟨rfl, hb⟩; replace HB := Aside0.mk (HB.out.trans (hb.mono HB.out.size)); clear hb)) | (go_at_call 23; go_must (refine (refthere_any x.br x.vol x.blk _).mono ?_; rintro e w8 ⟨rfl, hb⟩; rw [hT]; replace c0 := pw_cell_below hb c0; replace c1 := pw_cell_below hb c1; replace c2 := pw_cell_below hb c2; replace c3 := pw_cell_below hb c3; replace c4 := pw_cell_below hb c4; replace c5 := pw_cell_below hb c5; replace c6 := pw_cell_below hb c6; replace c7 := pw_cell_below hb c7; replace c8 := pw_cell_below hb c8; replace c9 := pw_cell_below hb c9; replace c10 := pw_cell_below hb c10; replace d0 := pw_cell_below hb d0; replace d1 := pw_cell_below hb d1; replace d2 := pw_cell_below hb d2; replace d3 := pw_cell_below hb d3; replace d4 := pw_cell_below hb d4; replace d5 := pw_cell_below hb d5; replace d6 := pw_cell_below hb d6; replace d7 := pw_cell_below hb d7; replace d8 := pw_cell_below hb d8; replace d9 := pw_cell_below hb d9; replace d10 := pw_cell_below hb d10; replace HB := Aside0.mk (HB.out.trans (hb.mono HB.out.size)); clear hb)))
        go_ret
        exact ⟨retB HE.out.symm, HB.out⟩
theorem rr2 (x : Cel) (hk : x.kind = 2) (hn : numOk x = true) : rightB x = (((thereB x.br x.vol x.blk) && (elderB x)) && sameB x ⟨x.kind, x.num, x.min, x.br, x.vol, x.blk, x.ref, 0, 0, 0, []⟩) := by
  have hs : sameB x (keepC x) = sameB x ⟨x.kind, x.num, x.min, x.br, x.vol, x.blk, x.ref, 0, 0, 0, []⟩ := by simp only [keepC, hk, show hasPlace 2 = true from rfl, show hasRef 2 = true from rfl, show hasMin 2 = false from rfl, show hasBody 2 = false from rfl, show hasKind 2 = true from rfl, if_true, Bool.false_eq_true, if_false]
  unfold numOk at hn
  simp only [Bool.and_eq_true] at hn
  obtain ⟨hn1, hn2, hn3⟩ := hn
  rw [rightB, hs, hn1, hn2, hn3, show hasKind x.kind = true by rw [hk]; rfl, fieldsB, hk]
  simp only [fieldsK, Bool.true_and, if_true, show ¬ (2 : Int) = 1 by decide, if_false]
  generalize sameB x _ = s_
  generalize thereB x.br x.vol x.blk = b0
  generalize elderB x = b1
  cases s_ <;> cases b0 <;> cases b1 <;> rfl
set_option maxHeartbeats 6400000 in
set_option maxRecDepth 100000 in
theorem refright_2 (x : Cel) (A : Option Addr) (c : Nat) (w : World) (hr : RdN w A x.body.length x.body) (hy : Byt x.body) (n1 : decide (x.num < 1) = false) (n2 : decide (65535 < x.num) = false) (hM : within x.min 1073741824 = true) (f1 : (x.kind == 1) = false) (f2 : (x.kind == 2) = true) (HKD : Aside0 (rightB x = (((thereB x.br x.vol x.blk) && (elderB x)) && sameB x ⟨x.kind, x.num, x.min, x.br, x.vol, x.blk, x.ref, 0, 0, 0, []⟩))) :
    Calls Try.prog 10 #[.agg (celA x A c)] w fun e w' => e = .returned (.bool (rightB x)) ∧ Below w.heap.size w w' := by
  have HR := Aside0.mk hr
  have HY := Aside0.mk hy
  clear hr hy
  go_enter Try.func10, Try.ntmps10
  go_upto_region 4 with (go_at_call 22; go_must (refine (minute_any x.min _).mono ?_; rintro e w4 ⟨rfl, rfl⟩; rw [hM]))
  go_cut [4] from 27 to 36 (fun v wx => v = .bool (elderB x) ∧ wx = ((w.alloc (.cells (celA x A c) 30)).alloc (.cells #[.int .i64 x.kind, .int .u64 x.num, .int .i64 x.min, .int .i64 0, .int .i64 0, .int .i64 0, .int .u64 0, .int .i64 0, .int .i64 0, .int .i64 0, .slice none 0 0] 30)))
  case first =>
    by_cases h1 : 1 ≤ x.ref
    · by_cases h2 : x.ref < x.num
      · have f1 : decide (1 ≤ x.ref) = true := decide_eq_true h1
        have f2 : decide (x.ref < x.num) = true := decide_eq_true h2
        have HE := Aside0.mk (show elderB x = true from decide_eq_true ⟨h1, h2⟩)
        clear h1 h2
        go_wp2
        go_meet
        case rel => exact ⟨by rw [HE.out], rfl⟩
      · have f1 : decide (1 ≤ x.ref) = true := decide_eq_true h1
        have f2 : decide (x.ref < x.num) = false := decide_eq_false h2
        have HE := Aside0.mk (show elderB x = false from decide_eq_false (fun h => h2 h.2))
        clear h1 h2
        go_wp2
        go_meet
        case rel => exact ⟨by rw [HE.out], rfl⟩
    · have f1 : decide (1 ≤ x.ref) = false := decide_eq_false h1
      have HE := Aside0.mk (show elderB x = false from decide_eq_false (fun h => h1 h.1))
      clear h1
      go_wp2
      go_meet
      case rel => exact ⟨by rw [HE.out], rfl⟩
  case rest =>
    obtain ⟨rfl, rfl⟩ := hcut
    go_upto_region 11 with (fail)
    go_wp2_with (fail)
    go_region
    go_upto_region 12 with (fail)
    obtain ⟨W2, hW2⟩ : ∃ W2, W2 = ((w.alloc (.cells (celA x A c) 30)).alloc (.cells #[.int .i64 x.kind, .int .u64 x.num, .int .i64 x.min, .int .i64 x.br, .int .i64 x.vol, .int .i64 x.blk, .int .u64 x.ref, .int .i64 0, .int .i64 0, .int .i64 0, .slice none 0 0] 30)).drew := ⟨_, rfl⟩
    rw [← hW2]
    obtain ⟨hq1, hq2⟩ := two_blk w x ⟨x.kind, x.num, x.min, x.br, x.vol, x.blk, x.ref, 0, 0, 0, []⟩ A none c 0
    have HX2 := Aside0.mk (show W2.heap[w.heap.size]? = some (.cells (celA x A c) 30 (0, 0)) by rw [hW2]; exact hq1)
    have HD2 := Aside0.mk (show W2.heap[w.heap.size + 1]? = some (.cells (celA ⟨x.kind, x.num, x.min, x.br, x.vol, x.blk, x.ref, 0, 0, 0, []⟩ none 0) 30 (0, 0)) by rw [hW2]; exact hq2)
    have HB := Aside0.mk (show Below w.heap.size w W2 by rw [hW2]; exact below_drew (below_alloc (below_alloc (Below.refl _ _) _) _))
    have hx := HX2.out
    have hd := HD2.out
    obtain ⟨c0, c1, c2, c3, c4, c5, c6, c7, c8, c9⟩ := cel_at (x := x) (A := A) (c := c) hx; have c10 : W2.cell? ⟨w.heap.size, 10, none⟩ = some (.slice A x.body.length c) := blk_cell hx 10
    obtain ⟨d0, d1, d2, d3, d4, d5, d6, d7, d8, d9⟩ := cel_at (x := ⟨x.kind, x.num, x.min, x.br, x.vol, x.blk, x.ref, 0, 0, 0, []⟩) (A := none) (c := 0) hd
    have d10 : W2.cell? ⟨w.heap.size + 1, 10, none⟩ = some (.slice none 0 0) := blk_cell hd 10
    simp only at d0 d1 d2 d3 d4 d5 d6 d7 d8 d9
    clear hW2 hq1 hq2 hx hd HX2 HD2
    cases hT : thereB x.br x.vol x.blk with
    | false =>
      have HE := Aside0.mk (show rightB x = false by rw [HKD.out]; simp [hT])
      go_wp2_with (first | (go_at_call 24; go_must (refine (refsame_any x ⟨x.kind, x.num, x.min, x.br, x.vol, x.blk, x.ref, 0, 0, 0, []⟩ A none c 0 _ (Kd.C_below HR.out HB.out) (RdB_nil _) HY.out Byt.nil).mono ?_; rintro e w3 ⟨rfl, hb⟩; replace HB := Aside0.mk (HB.out.trans (hb.mono HB.out.size)); clear hb)) | (go_at_call 23; go_must (refine (refthere_any x.br x.vol x.blk _).mono ?_; rintro e w8 ⟨rfl, hb⟩; rw [hT]; replace c0 := pw_cell_below hb c0; replace c1 := pw_cell_below hb c1; replace c2 := pw_cell_below hb c2; replace c3 := pw_cell_below hb c3; replace c4 := pw_cell_below hb c4; replace c5 := pw_cell_below hb c5; replace c6 := pw_cell_below hb c6; replace c7 := pw_cell_below hb c7; replace c8 := pw_cell_below hb c8; replace c9 := pw_cell_below hb c9; replace c10 := pw_cell_below hb c10; replace d0 := pw_cell_below hb d0; replace d1 := pw_cell_below hb d1; replace d2 := pw_cell_below hb d2; replace d3 := pw_cell_below hb d3; replace d4 := pw_cell_below hb d4; replace d5 := pw_cell_below hb d5; replace d6 := pw_cell_below hb d6; replace d7 := pw_cell_below hb d7; replace d8 := pw_cell_below hb d8; replace d9 := pw_cell_below hb d9; replace d10 := pw_cell_below hb d10; replace HB := Aside0.mk (HB.out.trans (hb.mono HB.out.size)); clear hb)))
      go_ret
      exact ⟨retB HE.out.symm, HB.out⟩
    | true =>
      cases hE : elderB x with
      | false =>
        have HE := Aside0.mk (show rightB x = false by rw [HKD.out]; simp [hT, hE])
        go_wp2_with (first | (go_at_call 24; go_must (refine (refsame_any x ⟨x.kind, x.num, x.min, x.br, x.vol, x.blk, x.ref, 0, 0, 0, []⟩ A none c 0 _ (Kd.C_below HR.out HB.out) (RdB_nil _) HY.out Byt.nil).mono ?_; rintro e w3 ⟨rfl, hb⟩; replace HB := Aside0.mk (HB.out.trans (hb.mono HB.out.size)); clear hb)) | (go_at_call 23; go_must (refine (refthere_any x.br x.vol x.blk _).mono ?_; rintro e w8 ⟨rfl, hb⟩; rw [hT]; replace c0 := pw_cell_below hb c0; replace c1 := pw_cell_below hb c1; replace c2 := pw_cell_below hb c2; replace c3 := pw_cell_below hb c3; replace c4 := pw_cell_below hb c4; replace c5 := pw_cell_below hb c5; replace c6 := pw_cell_below hb c6; replace c7 := pw_cell_below hb c7; replace c8 := pw_cell_below hb c8; replace c9 := pw_cell_below hb c9; replace c10 := pw_cell_below hb c10; replace d0 := pw_cell_below hb d0; replace d1 := pw_cell_below hb d1; replace d2 := pw_cell_below hb d2; replace d3 := pw_cell_below hb d3; replace d4 := pw_cell_below hb d4; replace d5 := pw_cell_below hb d5; replace d6 := pw_cell_below hb d6; replace d7 := pw_cell_below hb d7; replace d8 := pw_cell_below hb d8; replace d9 := pw_cell_below hb d9; replace d10 := pw_cell_below hb d10; replace HB := Aside0.mk (HB.out.trans (hb.mono HB.out.size)); clear hb)))
        go_ret
        exact ⟨retB HE.out.symm, HB.out⟩
      | true =>
        have HE := Aside0.mk (show rightB x = sameB x ⟨x.kind, x.num, x.min, x.br, x.vol, x.blk, x.ref, 0, 0, 0, []⟩ by rw [HKD.out]; simp [hT, hE])
        go_wp2_with (first | (go_at_call 24; go_must (refine (refsame_any x ⟨x.kind, x.num, x.min, x.br, x.vol, x.blk, x.ref, 0, 0, 0, []⟩ A none c 0 _ (Kd.C_below HR.out HB.out) (RdB_nil _) HY.out Byt.nil).mono ?_; rintro e w3 ⟨rfl, hb⟩; replace HB := Aside0.mk (HB.out.trans (hb.mono HB.out.size)); clear hb)) | (go_at_call 23; go_must (refine (refthere_any x.br x.vol x.blk _).mono ?_; rintro e w8 ⟨rfl, hb⟩; rw [hT]; replace c0 := pw_cell_below hb c0; replace c1 := pw_cell_below hb c1; replace c2 := pw_cell_below hb c2; replace c3 := pw_cell_below hb c3; replace c4 := pw_cell_below hb c4; replace c5 := pw_cell_below hb c5; replace c6 := pw_cell_below hb c6; replace c7 := pw_cell_below hb c7; replace c8 := pw_cell_below hb c8; replace c9 := pw_cell_below hb c9; replace c10 := pw_cell_below hb c10; replace d0 := pw_cell_below hb d0; replace d1 := pw_cell_below hb d1; replace d2 := pw_cell_below hb d2; replace d3 := pw_cell_below hb d3; replace d4 := pw_cell_below hb d4; replace d5 := pw_cell_below hb d5; replace d6 := pw_cell_below hb d6; replace d7 := pw_cell_below hb d7; replace d8 := pw_cell_below hb d8; replace d9 := pw_cell_below hb d9; replace d10 := pw_cell_below hb d10; replace HB := Aside0.mk (HB.out.trans (hb.mono HB.out.size)); clear hb)))
        go_ret
        exact ⟨retB HE.out.symm, HB.out⟩
theorem rr3 (x : Cel) (hk : x.kind = 3) (hn : numOk x = true) : rightB x = (((thereB x.br x.vol x.blk) && ((elderB x) && ((decide (1 ≤ (x.body.length : Int))) && (decide ((x.body.length : Int) ≤ 20))))) && sameB x ⟨x.kind, x.num, x.min, x.br, x.vol, x.blk, x.ref, 0, 0, 0, x.body⟩) := by
  have hs : sameB x (keepC x) = sameB x ⟨x.kind, x.num, x.min, x.br, x.vol, x.blk, x.ref, 0, 0, 0, x.body⟩ := by simp only [keepC, hk, show hasPlace 3 = true from rfl, show hasRef 3 = true from rfl, show hasMin 3 = false from rfl, show hasBody 3 = true from rfl, show hasKind 3 = true from rfl, if_true, Bool.false_eq_true, if_false]
  unfold numOk at hn
  simp only [Bool.and_eq_true] at hn
  obtain ⟨hn1, hn2, hn3⟩ := hn
  rw [rightB, hs, hn1, hn2, hn3, show hasKind x.kind = true by rw [hk]; rfl, fieldsB, hk]
  simp only [fieldsK, Bool.true_and, if_true, show ¬ (3 : Int) = 1 by decide, show ¬ (3 : Int) = 2 by decide, if_false]
  generalize sameB x _ = s_
  generalize thereB x.br x.vol x.blk = b0
  generalize elderB x = b1
  generalize decide (1 ≤ (x.body.length : Int)) = b2
  generalize decide ((x.body.length : Int) ≤ 20) = b3
  cases s_ <;> cases b0 <;> cases b1 <;> cases b2 <;> cases b3 <;> rfl
set_option maxHeartbeats 6400000 in
set_option maxRecDepth 100000 in
theorem refright_3 (x : Cel) (A : Option Addr) (c : Nat) (w : World) (hr : RdN w A x.body.length x.body) (hy : Byt x.body) (n1 : decide (x.num < 1) = false) (n2 : decide (65535 < x.num) = false) (hM : within x.min 1073741824 = true) (f1 : (x.kind == 1) = false) (f2 : (x.kind == 2) = false) (f3 : (x.kind == 3) = true) (HKD : Aside0 (rightB x = (((thereB x.br x.vol x.blk) && ((elderB x) && ((decide (1 ≤ (x.body.length : Int))) && (decide ((x.body.length : Int) ≤ 20))))) && sameB x ⟨x.kind, x.num, x.min, x.br, x.vol, x.blk, x.ref, 0, 0, 0, x.body⟩))) :
    Calls Try.prog 10 #[.agg (celA x A c)] w fun e w' => e = .returned (.bool (rightB x)) ∧ Below w.heap.size w w' := by
  have HR := Aside0.mk hr
  have HY := Aside0.mk hy
  clear hr hy
  go_enter Try.func10, Try.ntmps10
  go_upto_region 4 with (go_at_call 22; go_must (refine (minute_any x.min _).mono ?_; rintro e w4 ⟨rfl, rfl⟩; rw [hM]))
  go_cut [4] from 27 to 36 (fun v wx => v = .bool (elderB x) ∧ wx = ((w.alloc (.cells (celA x A c) 30)).alloc (.cells #[.int .i64 x.kind, .int .u64 x.num, .int .i64 x.min, .int .i64 0, .int .i64 0, .int .i64 0, .int .u64 0, .int .i64 0, .int .i64 0, .int .i64 0, .slice none 0 0] 30)))
  case first =>
    by_cases h1 : 1 ≤ x.ref
    · by_cases h2 : x.ref < x.num
      · have f1 : decide (1 ≤ x.ref) = true := decide_eq_true h1
        have f2 : decide (x.ref < x.num) = true := decide_eq_true h2
        have HE := Aside0.mk (show elderB x = true from decide_eq_true ⟨h1, h2⟩)
        clear h1 h2
        go_wp2
        go_meet
        case rel => exact ⟨by rw [HE.out], rfl⟩
      · have f1 : decide (1 ≤ x.ref) = true := decide_eq_true h1
        have f2 : decide (x.ref < x.num) = false := decide_eq_false h2
        have HE := Aside0.mk (show elderB x = false from decide_eq_false (fun h => h2 h.2))
        clear h1 h2
        go_wp2
        go_meet
        case rel => exact ⟨by rw [HE.out], rfl⟩
    · have f1 : decide (1 ≤ x.ref) = false := decide_eq_false h1
      have HE := Aside0.mk (show elderB x = false from decide_eq_false (fun h => h1 h.1))
      clear h1
      go_wp2
      go_meet
      case rel => exact ⟨by rw [HE.out], rfl⟩
  case rest =>
    obtain ⟨rfl, rfl⟩ := hcut
    go_upto_region 14 with (fail)
    go_wp2_with (fail)
    go_region
    go_upto_region 15 with (fail)
    obtain ⟨W2, hW2⟩ : ∃ W2, W2 = ((w.alloc (.cells (celA x A c) 30)).alloc (.cells #[.int .i64 x.kind, .int .u64 x.num, .int .i64 x.min, .int .i64 x.br, .int .i64 x.vol, .int .i64 x.blk, .int .u64 x.ref, .int .i64 0, .int .i64 0, .int .i64 0, .slice A x.body.length c] 30)).drew := ⟨_, rfl⟩
    rw [← hW2]
    obtain ⟨hq1, hq2⟩ := two_blk w x ⟨x.kind, x.num, x.min, x.br, x.vol, x.blk, x.ref, 0, 0, 0, x.body⟩ A A c c
    have HX2 := Aside0.mk (show W2.heap[w.heap.size]? = some (.cells (celA x A c) 30 (0, 0)) by rw [hW2]; exact hq1)
    have HD2 := Aside0.mk (show W2.heap[w.heap.size + 1]? = some (.cells (celA ⟨x.kind, x.num, x.min, x.br, x.vol, x.blk, x.ref, 0, 0, 0, x.body⟩ A c) 30 (0, 0)) by rw [hW2]; exact hq2)
    have HB := Aside0.mk (show Below w.heap.size w W2 by rw [hW2]; exact below_drew (below_alloc (below_alloc (Below.refl _ _) _) _))
    have hx := HX2.out
    have hd := HD2.out
    obtain ⟨c0, c1, c2, c3, c4, c5, c6, c7, c8, c9⟩ := cel_at (x := x) (A := A) (c := c) hx; have c10 : W2.cell? ⟨w.heap.size, 10, none⟩ = some (.slice A x.body.length c) := blk_cell hx 10
    obtain ⟨d0, d1, d2, d3, d4, d5, d6, d7, d8, d9⟩ := cel_at (x := ⟨x.kind, x.num, x.min, x.br, x.vol, x.blk, x.ref, 0, 0, 0, x.body⟩) (A := A) (c := c) hd
    have d10 : W2.cell? ⟨w.heap.size + 1, 10, none⟩ = some (.slice A x.body.length c) := blk_cell hd 10
    simp only at d0 d1 d2 d3 d4 d5 d6 d7 d8 d9
    clear hW2 hq1 hq2 hx hd HX2 HD2
    cases hT : thereB x.br x.vol x.blk with
    | false =>
      have HE := Aside0.mk (show rightB x = false by rw [HKD.out]; simp [hT])
      go_wp2_with (first | (go_at_call 24; go_must (refine (refsame_any x ⟨x.kind, x.num, x.min, x.br, x.vol, x.blk, x.ref, 0, 0, 0, x.body⟩ A A c c _ (Kd.C_below HR.out HB.out) (Kd.C_below HR.out HB.out) HY.out HY.out).mono ?_; rintro e w3 ⟨rfl, hb⟩; replace HB := Aside0.mk (HB.out.trans (hb.mono HB.out.size)); clear hb)) | (go_at_call 23; go_must (refine (refthere_any x.br x.vol x.blk _).mono ?_; rintro e w8 ⟨rfl, hb⟩; rw [hT]; replace c0 := pw_cell_below hb c0; replace c1 := pw_cell_below hb c1; replace c2 := pw_cell_below hb c2; replace c3 := pw_cell_below hb c3; replace c4 := pw_cell_below hb c4; replace c5 := pw_cell_below hb c5; replace c6 := pw_cell_below hb c6; replace c7 := pw_cell_below hb c7; replace c8 := pw_cell_below hb c8; replace c9 := pw_cell_below hb c9; replace c10 := pw_cell_below hb c10; replace d0 := pw_cell_below hb d0; replace d1 := pw_cell_below hb d1; replace d2 := pw_cell_below hb d2; replace d3 := pw_cell_below hb d3; replace d4 := pw_cell_below hb d4; replace d5 := pw_cell_below hb d5; replace d6 := pw_cell_below hb d6; replace d7 := pw_cell_below hb d7; replace d8 := pw_cell_below hb d8; replace d9 := pw_cell_below hb d9; replace d10 := pw_cell_below hb d10; replace HB := Aside0.mk (HB.out.trans (hb.mono HB.out.size)); clear hb)))
      go_ret
      exact ⟨retB HE.out.symm, HB.out⟩
    | true =>
      cases hE : elderB x with
      | false =>
        have HE := Aside0.mk (show rightB x = false by rw [HKD.out]; simp [hT, hE])
        go_wp2_with (first | (go_at_call 24; go_must (refine (refsame_any x ⟨x.kind, x.num, x.min, x.br, x.vol, x.blk, x.ref, 0, 0, 0, x.body⟩ A A c c _ (Kd.C_below HR.out HB.out) (Kd.C_below HR.out HB.out) HY.out HY.out).mono ?_; rintro e w3 ⟨rfl, hb⟩; replace HB := Aside0.mk (HB.out.trans (hb.mono HB.out.size)); clear hb)) | (go_at_call 23; go_must (refine (refthere_any x.br x.vol x.blk _).mono ?_; rintro e w8 ⟨rfl, hb⟩; rw [hT]; replace c0 := pw_cell_below hb c0; replace c1 := pw_cell_below hb c1; replace c2 := pw_cell_below hb c2; replace c3 := pw_cell_below hb c3; replace c4 := pw_cell_below hb c4; replace c5 := pw_cell_below hb c5; replace c6 := pw_cell_below hb c6; replace c7 := pw_cell_below hb c7; replace c8 := pw_cell_below hb c8; replace c9 := pw_cell_below hb c9; replace c10 := pw_cell_below hb c10; replace d0 := pw_cell_below hb d0; replace d1 := pw_cell_below hb d1; replace d2 := pw_cell_below hb d2; replace d3 := pw_cell_below hb d3; replace d4 := pw_cell_below hb d4; replace d5 := pw_cell_below hb d5; replace d6 := pw_cell_below hb d6; replace d7 := pw_cell_below hb d7; replace d8 := pw_cell_below hb d8; replace d9 := pw_cell_below hb d9; replace d10 := pw_cell_below hb d10; replace HB := Aside0.mk (HB.out.trans (hb.mono HB.out.size)); clear hb)))
        go_ret
        exact ⟨retB HE.out.symm, HB.out⟩
      | true =>
        by_cases hP : 1 ≤ (x.body.length : Int)
        · have gP : decide (1 ≤ (x.body.length : Int)) = true := decide_eq_true hP
          by_cases hQ : (x.body.length : Int) ≤ 20
          · have gQ : decide ((x.body.length : Int) ≤ 20) = true := decide_eq_true hQ
            have HE := Aside0.mk (show rightB x = sameB x ⟨x.kind, x.num, x.min, x.br, x.vol, x.blk, x.ref, 0, 0, 0, x.body⟩ by rw [HKD.out]; simp [hT, hE, hP, hQ])
            go_wp2_with (first | (go_at_call 24; go_must (refine (refsame_any x ⟨x.kind, x.num, x.min, x.br, x.vol, x.blk, x.ref, 0, 0, 0, x.body⟩ A A c c _ (Kd.C_below HR.out HB.out) (Kd.C_below HR.out HB.out) HY.out HY.out).mono ?_; rintro e w3 ⟨rfl, hb⟩; replace HB := Aside0.mk (HB.out.trans (hb.mono HB.out.size)); clear hb)) | (go_at_call 23; go_must (refine (refthere_any x.br x.vol x.blk _).mono ?_; rintro e w8 ⟨rfl, hb⟩; rw [hT]; replace c0 := pw_cell_below hb c0; replace c1 := pw_cell_below hb c1; replace c2 := pw_cell_below hb c2; replace c3 := pw_cell_below hb c3; replace c4 := pw_cell_below hb c4; replace c5 := pw_cell_below hb c5; replace c6 := pw_cell_below hb c6; replace c7 := pw_cell_below hb c7; replace c8 := pw_cell_below hb c8; replace c9 := pw_cell_below hb c9; replace c10 := pw_cell_below hb c10; replace d0 := pw_cell_below hb d0; replace d1 := pw_cell_below hb d1; replace d2 := pw_cell_below hb d2; replace d3 := pw_cell_below hb d3; replace d4 := pw_cell_below hb d4; replace d5 := pw_cell_below hb d5; replace d6 := pw_cell_below hb d6; replace d7 := pw_cell_below hb d7; replace d8 := pw_cell_below hb d8; replace d9 := pw_cell_below hb d9; replace d10 := pw_cell_below hb d10; replace HB := Aside0.mk (HB.out.trans (hb.mono HB.out.size)); clear hb)))
            go_ret
            exact ⟨retB HE.out.symm, HB.out⟩
          · have gQ : decide ((x.body.length : Int) ≤ 20) = false := decide_eq_false hQ
            have HE := Aside0.mk (show rightB x = false by rw [HKD.out]; simp [hT, hE, hP, hQ])
            go_wp2_with (first | (go_at_call 24; go_must (refine (refsame_any x ⟨x.kind, x.num, x.min, x.br, x.vol, x.blk, x.ref, 0, 0, 0, x.body⟩ A A c c _ (Kd.C_below HR.out HB.out) (Kd.C_below HR.out HB.out) HY.out HY.out).mono ?_; rintro e w3 ⟨rfl, hb⟩; replace HB := Aside0.mk (HB.out.trans (hb.mono HB.out.size)); clear hb)) | (go_at_call 23; go_must (refine (refthere_any x.br x.vol x.blk _).mono ?_; rintro e w8 ⟨rfl, hb⟩; rw [hT]; replace c0 := pw_cell_below hb c0; replace c1 := pw_cell_below hb c1; replace c2 := pw_cell_below hb c2; replace c3 := pw_cell_below hb c3; replace c4 := pw_cell_below hb c4; replace c5 := pw_cell_below hb c5; replace c6 := pw_cell_below hb c6; replace c7 := pw_cell_below hb c7; replace c8 := pw_cell_below hb c8; replace c9 := pw_cell_below hb c9; replace c10 := pw_cell_below hb c10; replace d0 := pw_cell_below hb d0; replace d1 := pw_cell_below hb d1; replace d2 := pw_cell_below hb d2; replace d3 := pw_cell_below hb d3; replace d4 := pw_cell_below hb d4; replace d5 := pw_cell_below hb d5; replace d6 := pw_cell_below hb d6; replace d7 := pw_cell_below hb d7; replace d8 := pw_cell_below hb d8; replace d9 := pw_cell_below hb d9; replace d10 := pw_cell_below hb d10; replace HB := Aside0.mk (HB.out.trans (hb.mono HB.out.size)); clear hb)))
            go_ret
            exact ⟨retB HE.out.symm, HB.out⟩
        · have gP : decide (1 ≤ (x.body.length : Int)) = false := decide_eq_false hP
          have HE := Aside0.mk (show rightB x = false by rw [HKD.out]; simp [hT, hE, hP])
          go_wp2_with (first | (go_at_call 24; go_must (refine (refsame_any x ⟨x.kind, x.num, x.min, x.br, x.vol, x.blk, x.ref, 0, 0, 0, x.body⟩ A A c c _ (Kd.C_below HR.out HB.out) (Kd.C_below HR.out HB.out) HY.out HY.out).mono ?_; rintro e w3 ⟨rfl, hb⟩; replace HB := Aside0.mk (HB.out.trans (hb.mono HB.out.size)); clear hb)) | (go_at_call 23; go_must (refine (refthere_any x.br x.vol x.blk _).mono ?_; rintro e w8 ⟨rfl, hb⟩; rw [hT]; replace c0 := pw_cell_below hb c0; replace c1 := pw_cell_below hb c1; replace c2 := pw_cell_below hb c2; replace c3 := pw_cell_below hb c3; replace c4 := pw_cell_below hb c4; replace c5 := pw_cell_below hb c5; replace c6 := pw_cell_below hb c6; replace c7 := pw_cell_below hb c7; replace c8 := pw_cell_below hb c8; replace c9 := pw_cell_below hb c9; replace c10 := pw_cell_below hb c10; replace d0 := pw_cell_below hb d0; replace d1 := pw_cell_below hb d1; replace d2 := pw_cell_below hb d2; replace d3 := pw_cell_below hb d3; replace d4 := pw_cell_below hb d4; replace d5 := pw_cell_below hb d5; replace d6 := pw_cell_below hb d6; replace d7 := pw_cell_below hb d7; replace d8 := pw_cell_below hb d8; replace d9 := pw_cell_below hb d9; replace d10 := pw_cell_below hb d10; replace HB := Aside0.mk (HB.out.trans (hb.mono HB.out.size)); clear hb)))
          go_ret
          exact ⟨retB HE.out.symm, HB.out⟩
theorem rr4 (x : Cel) (hk : x.kind = 4) (hn : numOk x = true) : rightB x = (((elderB x) && ((decide (1 ≤ x.br)) && ((decide (x.br ≤ 15)) && ((decide (0 ≤ x.vol)) && ((decide (x.vol ≤ 15)) && (!decide (x.vol = x.br))))))) && sameB x ⟨x.kind, x.num, x.min, x.br, x.vol, 0, x.ref, 0, 0, 0, []⟩) := by
  have hs : sameB x (keepC x) = sameB x ⟨x.kind, x.num, x.min, x.br, x.vol, x.blk, x.ref, 0, 0, 0, []⟩ := by simp only [keepC, hk, show hasPlace 4 = true from rfl, show hasRef 4 = true from rfl, show hasMin 4 = false from rfl, show hasBody 4 = false from rfl, show hasKind 4 = true from rfl, if_true, Bool.false_eq_true, if_false]
  unfold numOk at hn
  simp only [Bool.and_eq_true] at hn
  obtain ⟨hn1, hn2, hn3⟩ := hn
  rw [rightB, hs, hn1, hn2, hn3, show hasKind x.kind = true by rw [hk]; rfl, fieldsB, hk]
  simp only [fieldsK, Bool.true_and, if_true, show ¬ (4 : Int) = 1 by decide, show ¬ (4 : Int) = 2 by decide, show ¬ (4 : Int) = 3 by decide, if_false]
  have h4 : sameB x ⟨4, x.num, x.min, x.br, x.vol, 0, x.ref, 0, 0, 0, []⟩ = (sameB x ⟨4, x.num, x.min, x.br, x.vol, x.blk, x.ref, 0, 0, 0, []⟩ && decide (x.blk = 0)) := by
    simp only [sameB]; rw [Bool.eq_iff_iff]; simp only [Bool.and_eq_true, decide_eq_true_eq]
    constructor
    · intro h; have hb : x.blk = 0 := congrArg Cel.blk h; exact ⟨by rw [hb]; exact h, hb⟩
    · rintro ⟨h, hb⟩; rw [hb] at h; exact h
  rw [h4, show branchB x = (decide (1 ≤ x.br) && decide (x.br ≤ 15)) by simp only [branchB]; rw [Bool.eq_iff_iff]; simp only [Bool.and_eq_true, decide_eq_true_eq]; omega, show within x.vol 15 = (decide (0 ≤ x.vol) && decide (x.vol ≤ 15)) by simp only [within]; rw [Bool.eq_iff_iff]; simp only [Bool.and_eq_true, decide_eq_true_eq]]
  generalize sameB x _ = s_
  generalize elderB x = b0
  generalize decide (1 ≤ x.br) = b1
  generalize decide (x.br ≤ 15) = b2
  generalize decide (0 ≤ x.vol) = b3
  generalize decide (x.vol ≤ 15) = b4
  generalize decide (x.vol = x.br) = b5
  generalize decide (x.blk = 0) = z0
  cases s_ <;> cases b0 <;> cases b1 <;> cases b2 <;> cases b3 <;> cases b4 <;> cases b5 <;> cases z0 <;> rfl
set_option maxHeartbeats 6400000 in
set_option maxRecDepth 100000 in
theorem refright_4 (x : Cel) (A : Option Addr) (c : Nat) (w : World) (hr : RdN w A x.body.length x.body) (hy : Byt x.body) (n1 : decide (x.num < 1) = false) (n2 : decide (65535 < x.num) = false) (hM : within x.min 1073741824 = true) (f1 : (x.kind == 1) = false) (f2 : (x.kind == 2) = false) (f3 : (x.kind == 3) = false) (f4 : (x.kind == 4) = true) (HKD : Aside0 (rightB x = (((elderB x) && ((decide (1 ≤ x.br)) && ((decide (x.br ≤ 15)) && ((decide (0 ≤ x.vol)) && ((decide (x.vol ≤ 15)) && (!decide (x.vol = x.br))))))) && sameB x ⟨x.kind, x.num, x.min, x.br, x.vol, 0, x.ref, 0, 0, 0, []⟩))) :
    Calls Try.prog 10 #[.agg (celA x A c)] w fun e w' => e = .returned (.bool (rightB x)) ∧ Below w.heap.size w w' := by
  have HR := Aside0.mk hr
  have HY := Aside0.mk hy
  clear hr hy
  go_enter Try.func10, Try.ntmps10
  go_upto_region 4 with (go_at_call 22; go_must (refine (minute_any x.min _).mono ?_; rintro e w4 ⟨rfl, rfl⟩; rw [hM]))
  go_cut [4] from 27 to 36 (fun v wx => v = .bool (elderB x) ∧ wx = ((w.alloc (.cells (celA x A c) 30)).alloc (.cells #[.int .i64 x.kind, .int .u64 x.num, .int .i64 x.min, .int .i64 0, .int .i64 0, .int .i64 0, .int .u64 0, .int .i64 0, .int .i64 0, .int .i64 0, .slice none 0 0] 30)))
  case first =>
    by_cases h1 : 1 ≤ x.ref
    · by_cases h2 : x.ref < x.num
      · have f1 : decide (1 ≤ x.ref) = true := decide_eq_true h1
        have f2 : decide (x.ref < x.num) = true := decide_eq_true h2
        have HE := Aside0.mk (show elderB x = true from decide_eq_true ⟨h1, h2⟩)
        clear h1 h2
        go_wp2
        go_meet
        case rel => exact ⟨by rw [HE.out], rfl⟩
      · have f1 : decide (1 ≤ x.ref) = true := decide_eq_true h1
        have f2 : decide (x.ref < x.num) = false := decide_eq_false h2
        have HE := Aside0.mk (show elderB x = false from decide_eq_false (fun h => h2 h.2))
        clear h1 h2
        go_wp2
        go_meet
        case rel => exact ⟨by rw [HE.out], rfl⟩
    · have f1 : decide (1 ≤ x.ref) = false := decide_eq_false h1
      have HE := Aside0.mk (show elderB x = false from decide_eq_false (fun h => h1 h.1))
      clear h1
      go_wp2
      go_meet
      case rel => exact ⟨by rw [HE.out], rfl⟩
  case rest =>
    obtain ⟨rfl, rfl⟩ := hcut
    go_upto_region 17 with (fail)
    go_wp2_with (fail)
    go_region
    go_upto_region 18 with (fail)
    obtain ⟨W2, hW2⟩ : ∃ W2, W2 = ((w.alloc (.cells (celA x A c) 30)).alloc (.cells #[.int .i64 x.kind, .int .u64 x.num, .int .i64 x.min, .int .i64 x.br, .int .i64 x.vol, .int .i64 0, .int .u64 x.ref, .int .i64 0, .int .i64 0, .int .i64 0, .slice none 0 0] 30)).drew := ⟨_, rfl⟩
    rw [← hW2]
    obtain ⟨hq1, hq2⟩ := two_blk w x ⟨x.kind, x.num, x.min, x.br, x.vol, 0, x.ref, 0, 0, 0, []⟩ A none c 0
    have HX2 := Aside0.mk (show W2.heap[w.heap.size]? = some (.cells (celA x A c) 30 (0, 0)) by rw [hW2]; exact hq1)
    have HD2 := Aside0.mk (show W2.heap[w.heap.size + 1]? = some (.cells (celA ⟨x.kind, x.num, x.min, x.br, x.vol, 0, x.ref, 0, 0, 0, []⟩ none 0) 30 (0, 0)) by rw [hW2]; exact hq2)
    have HB := Aside0.mk (show Below w.heap.size w W2 by rw [hW2]; exact below_drew (below_alloc (below_alloc (Below.refl _ _) _) _))
    have hx := HX2.out
    have hd := HD2.out
    obtain ⟨c0, c1, c2, c3, c4, c5, c6, c7, c8, c9⟩ := cel_at (x := x) (A := A) (c := c) hx; have c10 : W2.cell? ⟨w.heap.size, 10, none⟩ = some (.slice A x.body.length c) := blk_cell hx 10
    obtain ⟨d0, d1, d2, d3, d4, d5, d6, d7, d8, d9⟩ := cel_at (x := ⟨x.kind, x.num, x.min, x.br, x.vol, 0, x.ref, 0, 0, 0, []⟩) (A := none) (c := 0) hd
    have d10 : W2.cell? ⟨w.heap.size + 1, 10, none⟩ = some (.slice none 0 0) := blk_cell hd 10
    simp only at d0 d1 d2 d3 d4 d5 d6 d7 d8 d9
    clear hW2 hq1 hq2 hx hd HX2 HD2
    cases hE : elderB x with
    | false =>
      have HE := Aside0.mk (show rightB x = false by rw [HKD.out]; simp [hE])
      go_wp2_with (first | (go_at_call 24; go_must (refine (refsame_any x ⟨x.kind, x.num, x.min, x.br, x.vol, 0, x.ref, 0, 0, 0, []⟩ A none c 0 _ (Kd.C_below HR.out HB.out) (RdB_nil _) HY.out Byt.nil).mono ?_; rintro e w3 ⟨rfl, hb⟩; replace HB := Aside0.mk (HB.out.trans (hb.mono HB.out.size)); clear hb)))
      go_ret
      exact ⟨retB HE.out.symm, HB.out⟩
    | true =>
      by_cases hA : 1 ≤ x.br
      · have gA : decide (1 ≤ x.br) = true := decide_eq_true hA
        by_cases hC : x.br ≤ 15
        · have gC : decide (x.br ≤ 15) = true := decide_eq_true hC
          by_cases hD : 0 ≤ x.vol
          · have gD : decide (0 ≤ x.vol) = true := decide_eq_true hD
            by_cases hF : x.vol ≤ 15
            · have gF : decide (x.vol ≤ 15) = true := decide_eq_true hF
              by_cases hV : x.vol = x.br
              · have gV : (x.vol == x.br) = true := beq_iff_eq.2 hV; have kV : (x.vol != x.br) = false := bne_eq_false_iff_eq.2 hV
                have HE := Aside0.mk (show rightB x = false by rw [HKD.out]; simp [hE, hA, hC, hD, hF, hV])
                go_wp2_with (first | (go_at_call 24; go_must (refine (refsame_any x ⟨x.kind, x.num, x.min, x.br, x.vol, 0, x.ref, 0, 0, 0, []⟩ A none c 0 _ (Kd.C_below HR.out HB.out) (RdB_nil _) HY.out Byt.nil).mono ?_; rintro e w3 ⟨rfl, hb⟩; replace HB := Aside0.mk (HB.out.trans (hb.mono HB.out.size)); clear hb)))
                go_ret
                exact ⟨retB HE.out.symm, HB.out⟩
              · have gV : (x.vol == x.br) = false := beq_eq_false_iff_ne.2 hV; have kV : (x.vol != x.br) = true := bne_iff_ne.2 hV
                have HE := Aside0.mk (show rightB x = sameB x ⟨x.kind, x.num, x.min, x.br, x.vol, 0, x.ref, 0, 0, 0, []⟩ by rw [HKD.out]; simp [hE, hA, hC, hD, hF, hV])
                go_wp2_with (first | (go_at_call 24; go_must (refine (refsame_any x ⟨x.kind, x.num, x.min, x.br, x.vol, 0, x.ref, 0, 0, 0, []⟩ A none c 0 _ (Kd.C_below HR.out HB.out) (RdB_nil _) HY.out Byt.nil).mono ?_; rintro e w3 ⟨rfl, hb⟩; replace HB := Aside0.mk (HB.out.trans (hb.mono HB.out.size)); clear hb)))
                go_ret
                exact ⟨retB HE.out.symm, HB.out⟩
            · have gF : decide (x.vol ≤ 15) = false := decide_eq_false hF
              have HE := Aside0.mk (show rightB x = false by rw [HKD.out]; simp [hE, hA, hC, hD, hF])
              go_wp2_with (first | (go_at_call 24; go_must (refine (refsame_any x ⟨x.kind, x.num, x.min, x.br, x.vol, 0, x.ref, 0, 0, 0, []⟩ A none c 0 _ (Kd.C_below HR.out HB.out) (RdB_nil _) HY.out Byt.nil).mono ?_; rintro e w3 ⟨rfl, hb⟩; replace HB := Aside0.mk (HB.out.trans (hb.mono HB.out.size)); clear hb)))
              go_ret
              exact ⟨retB HE.out.symm, HB.out⟩
          · have gD : decide (0 ≤ x.vol) = false := decide_eq_false hD
            have HE := Aside0.mk (show rightB x = false by rw [HKD.out]; simp [hE, hA, hC, hD])
            go_wp2_with (first | (go_at_call 24; go_must (refine (refsame_any x ⟨x.kind, x.num, x.min, x.br, x.vol, 0, x.ref, 0, 0, 0, []⟩ A none c 0 _ (Kd.C_below HR.out HB.out) (RdB_nil _) HY.out Byt.nil).mono ?_; rintro e w3 ⟨rfl, hb⟩; replace HB := Aside0.mk (HB.out.trans (hb.mono HB.out.size)); clear hb)))
            go_ret
            exact ⟨retB HE.out.symm, HB.out⟩
        · have gC : decide (x.br ≤ 15) = false := decide_eq_false hC
          have HE := Aside0.mk (show rightB x = false by rw [HKD.out]; simp [hE, hA, hC])
          go_wp2_with (first | (go_at_call 24; go_must (refine (refsame_any x ⟨x.kind, x.num, x.min, x.br, x.vol, 0, x.ref, 0, 0, 0, []⟩ A none c 0 _ (Kd.C_below HR.out HB.out) (RdB_nil _) HY.out Byt.nil).mono ?_; rintro e w3 ⟨rfl, hb⟩; replace HB := Aside0.mk (HB.out.trans (hb.mono HB.out.size)); clear hb)))
          go_ret
          exact ⟨retB HE.out.symm, HB.out⟩
      · have gA : decide (1 ≤ x.br) = false := decide_eq_false hA
        have HE := Aside0.mk (show rightB x = false by rw [HKD.out]; simp [hE, hA])
        go_wp2_with (first | (go_at_call 24; go_must (refine (refsame_any x ⟨x.kind, x.num, x.min, x.br, x.vol, 0, x.ref, 0, 0, 0, []⟩ A none c 0 _ (Kd.C_below HR.out HB.out) (RdB_nil _) HY.out Byt.nil).mono ?_; rintro e w3 ⟨rfl, hb⟩; replace HB := Aside0.mk (HB.out.trans (hb.mono HB.out.size)); clear hb)))
        go_ret
        exact ⟨retB HE.out.symm, HB.out⟩
theorem rr5 (x : Cel) (hk : x.kind = 5) (hn : numOk x = true) : rightB x = (((decide (1 ≤ x.br)) && (decide (x.br ≤ 15))) && sameB x ⟨x.kind, x.num, x.min, x.br, 0, 0, 0, 0, 0, 0, []⟩) := by
  have hs : sameB x (keepC x) = sameB x ⟨x.kind, x.num, x.min, x.br, x.vol, x.blk, 0, 0, 0, 0, []⟩ := by simp only [keepC, hk, show hasPlace 5 = true from rfl, show hasRef 5 = false from rfl, show hasMin 5 = false from rfl, show hasBody 5 = false from rfl, show hasKind 5 = true from rfl, if_true, Bool.false_eq_true, if_false]
  unfold numOk at hn
  simp only [Bool.and_eq_true] at hn
  obtain ⟨hn1, hn2, hn3⟩ := hn
  rw [rightB, hs, hn1, hn2, hn3, show hasKind x.kind = true by rw [hk]; rfl, fieldsB, hk]
  simp only [fieldsK, Bool.true_and, if_true, show ¬ (5 : Int) = 1 by decide, show ¬ (5 : Int) = 2 by decide, show ¬ (5 : Int) = 3 by decide, show ¬ (5 : Int) = 4 by decide, if_false]
  have h4 : sameB x ⟨5, x.num, x.min, x.br, 0, 0, 0, 0, 0, 0, []⟩ = (sameB x ⟨5, x.num, x.min, x.br, x.vol, x.blk, 0, 0, 0, 0, []⟩ && (decide (x.vol = 0) && decide (x.blk = 0))) := by
    simp only [sameB]; rw [Bool.eq_iff_iff]; simp only [Bool.and_eq_true, decide_eq_true_eq]
    constructor
    · intro h; have hv : x.vol = 0 := congrArg Cel.vol h; have hb : x.blk = 0 := congrArg Cel.blk h; exact ⟨by rw [hb, hv]; exact h, hv, hb⟩
    · rintro ⟨h, hv, hb⟩; rw [hv, hb] at h; exact h
  rw [h4, show branchB x = (decide (1 ≤ x.br) && decide (x.br ≤ 15)) by simp only [branchB]; rw [Bool.eq_iff_iff]; simp only [Bool.and_eq_true, decide_eq_true_eq]; omega]
  generalize sameB x _ = s_
  generalize decide (1 ≤ x.br) = b0
  generalize decide (x.br ≤ 15) = b1
  generalize decide (x.vol = 0) = z0
  generalize decide (x.blk = 0) = z1
  cases s_ <;> cases b0 <;> cases b1 <;> cases z0 <;> cases z1 <;> rfl
set_option maxHeartbeats 6400000 in
set_option maxRecDepth 100000 in
theorem refright_5 (x : Cel) (A : Option Addr) (c : Nat) (w : World) (hr : RdN w A x.body.length x.body) (hy : Byt x.body) (n1 : decide (x.num < 1) = false) (n2 : decide (65535 < x.num) = false) (hM : within x.min 1073741824 = true) (f1 : (x.kind == 1) = false) (f2 : (x.kind == 2) = false) (f3 : (x.kind == 3) = false) (f4 : (x.kind == 4) = false) (f5 : (x.kind == 5) = true) (HKD : Aside0 (rightB x = (((decide (1 ≤ x.br)) && (decide (x.br ≤ 15))) && sameB x ⟨x.kind, x.num, x.min, x.br, 0, 0, 0, 0, 0, 0, []⟩))) :
    Calls Try.prog 10 #[.agg (celA x A c)] w fun e w' => e = .returned (.bool (rightB x)) ∧ Below w.heap.size w w' := by
  have HR := Aside0.mk hr
  have HY := Aside0.mk hy
  clear hr hy
  go_enter Try.func10, Try.ntmps10
  go_upto_region 4 with (go_at_call 22; go_must (refine (minute_any x.min _).mono ?_; rintro e w4 ⟨rfl, rfl⟩; rw [hM]))
  go_cut [4] from 27 to 36 (fun v wx => v = .bool (elderB x) ∧ wx = ((w.alloc (.cells (celA x A c) 30)).alloc (.cells #[.int .i64 x.kind, .int .u64 x.num, .int .i64 x.min, .int .i64 0, .int .i64 0, .int .i64 0, .int .u64 0, .int .i64 0, .int .i64 0, .int .i64 0, .slice none 0 0] 30)))
  case first =>
    by_cases h1 : 1 ≤ x.ref
    · by_cases h2 : x.ref < x.num
      · have f1 : decide (1 ≤ x.ref) = true := decide_eq_true h1
        have f2 : decide (x.ref < x.num) = true := decide_eq_true h2
        have HE := Aside0.mk (show elderB x = true from decide_eq_true ⟨h1, h2⟩)
        clear h1 h2
        go_wp2
        go_meet
        case rel => exact ⟨by rw [HE.out], rfl⟩
      · have f1 : decide (1 ≤ x.ref) = true := decide_eq_true h1
        have f2 : decide (x.ref < x.num) = false := decide_eq_false h2
        have HE := Aside0.mk (show elderB x = false from decide_eq_false (fun h => h2 h.2))
        clear h1 h2
        go_wp2
        go_meet
        case rel => exact ⟨by rw [HE.out], rfl⟩
    · have f1 : decide (1 ≤ x.ref) = false := decide_eq_false h1
      have HE := Aside0.mk (show elderB x = false from decide_eq_false (fun h => h1 h.1))
      clear h1
      go_wp2
      go_meet
      case rel => exact ⟨by rw [HE.out], rfl⟩
  case rest =>
    obtain ⟨rfl, rfl⟩ := hcut
    go_upto_region 21 with (fail)
    obtain ⟨W2, hW2⟩ : ∃ W2, W2 = ((w.alloc (.cells (celA x A c) 30)).alloc (.cells #[.int .i64 x.kind, .int .u64 x.num, .int .i64 x.min, .int .i64 x.br, .int .i64 0, .int .i64 0, .int .u64 0, .int .i64 0, .int .i64 0, .int .i64 0, .slice none 0 0] 30)) := ⟨_, rfl⟩
    rw [← hW2]
    obtain ⟨hq1, hq2⟩ := two_blk w x ⟨x.kind, x.num, x.min, x.br, 0, 0, 0, 0, 0, 0, []⟩ A none c 0
    have HX2 := Aside0.mk (show W2.heap[w.heap.size]? = some (.cells (celA x A c) 30 (0, 0)) by rw [hW2]; exact hq1)
    have HD2 := Aside0.mk (show W2.heap[w.heap.size + 1]? = some (.cells (celA ⟨x.kind, x.num, x.min, x.br, 0, 0, 0, 0, 0, 0, []⟩ none 0) 30 (0, 0)) by rw [hW2]; exact hq2)
    have HB := Aside0.mk (show Below w.heap.size w W2 by rw [hW2]; exact below_alloc (below_alloc (Below.refl _ _) _) _)
    have hx := HX2.out
    have hd := HD2.out
    obtain ⟨c0, c1, c2, c3, c4, c5, c6, c7, c8, c9⟩ := cel_at (x := x) (A := A) (c := c) hx; have c10 : W2.cell? ⟨w.heap.size, 10, none⟩ = some (.slice A x.body.length c) := blk_cell hx 10
    obtain ⟨d0, d1, d2, d3, d4, d5, d6, d7, d8, d9⟩ := cel_at (x := ⟨x.kind, x.num, x.min, x.br, 0, 0, 0, 0, 0, 0, []⟩) (A := none) (c := 0) hd
    have d10 : W2.cell? ⟨w.heap.size + 1, 10, none⟩ = some (.slice none 0 0) := blk_cell hd 10
    simp only at d0 d1 d2 d3 d4 d5 d6 d7 d8 d9
    clear hW2 hq1 hq2 hx hd HX2 HD2
    by_cases hA : 1 ≤ x.br
    · have gA : decide (1 ≤ x.br) = true := decide_eq_true hA
      by_cases hC : x.br ≤ 15
      · have gC : decide (x.br ≤ 15) = true := decide_eq_true hC
        have HE := Aside0.mk (show rightB x = sameB x ⟨x.kind, x.num, x.min, x.br, 0, 0, 0, 0, 0, 0, []⟩ by rw [HKD.out]; simp [hA, hC])
        go_wp2_with (first | (go_at_call 24; go_must (refine (refsame_any x ⟨x.kind, x.num, x.min, x.br, 0, 0, 0, 0, 0, 0, []⟩ A none c 0 _ (Kd.C_below HR.out HB.out) (RdB_nil _) HY.out Byt.nil).mono ?_; rintro e w3 ⟨rfl, hb⟩; replace HB := Aside0.mk (HB.out.trans (hb.mono HB.out.size)); clear hb)))
        go_ret
        exact ⟨retB HE.out.symm, HB.out⟩
      · have gC : decide (x.br ≤ 15) = false := decide_eq_false hC
        have HE := Aside0.mk (show rightB x = false by rw [HKD.out]; simp [hA, hC])
        go_wp2_with (first | (go_at_call 24; go_must (refine (refsame_any x ⟨x.kind, x.num, x.min, x.br, 0, 0, 0, 0, 0, 0, []⟩ A none c 0 _ (Kd.C_below HR.out HB.out) (RdB_nil _) HY.out Byt.nil).mono ?_; rintro e w3 ⟨rfl, hb⟩; replace HB := Aside0.mk (HB.out.trans (hb.mono HB.out.size)); clear hb)))
        go_ret
        exact ⟨retB HE.out.symm, HB.out⟩
    · have gA : decide (1 ≤ x.br) = false := decide_eq_false hA
      have HE := Aside0.mk (show rightB x = false by rw [HKD.out]; simp [hA])
      go_wp2_with (first | (go_at_call 24; go_must (refine (refsame_any x ⟨x.kind, x.num, x.min, x.br, 0, 0, 0, 0, 0, 0, []⟩ A none c 0 _ (Kd.C_below HR.out HB.out) (RdB_nil _) HY.out Byt.nil).mono ?_; rintro e w3 ⟨rfl, hb⟩; replace HB := Aside0.mk (HB.out.trans (hb.mono HB.out.size)); clear hb)))
      go_ret
      exact ⟨retB HE.out.symm, HB.out⟩
theorem rr6 (x : Cel) (hk : x.kind = 6) (hn : numOk x = true) : rightB x = (((decide (1 ≤ x.ref)) && ((decide (x.ref ≤ 65535)) && ((within x.fr 1073741824) && ((within x.to 1073741824) && ((within x.un 1073741824) && (decide (x.fr ≤ x.to))))))) && sameB x ⟨x.kind, x.num, x.min, 0, 0, 0, x.ref, x.fr, x.to, x.un, []⟩) := by
  have hs : sameB x (keepC x) = sameB x ⟨x.kind, x.num, x.min, 0, 0, 0, x.ref, x.fr, x.to, x.un, []⟩ := by simp only [keepC, hk, show hasPlace 6 = false from rfl, show hasRef 6 = true from rfl, show hasMin 6 = true from rfl, show hasBody 6 = false from rfl, show hasKind 6 = true from rfl, if_true, Bool.false_eq_true, if_false]
  unfold numOk at hn
  simp only [Bool.and_eq_true] at hn
  obtain ⟨hn1, hn2, hn3⟩ := hn
  rw [rightB, hs, hn1, hn2, hn3, show hasKind x.kind = true by rw [hk]; rfl, fieldsB, hk]
  simp only [fieldsK, Bool.true_and, if_true, show ¬ (6 : Int) = 1 by decide, show ¬ (6 : Int) = 2 by decide, show ¬ (6 : Int) = 3 by decide, show ¬ (6 : Int) = 4 by decide, show ¬ (6 : Int) = 5 by decide, if_false]
  have h6 : (decide (1 ≤ x.ref) && (decide (x.ref ≤ 65535) && (within x.fr x.to && (within x.to 1073741824 && within x.un 1073741824)))) = ((decide (1 ≤ x.ref)) && ((decide (x.ref ≤ 65535)) && ((within x.fr 1073741824) && ((within x.to 1073741824) && ((within x.un 1073741824) && (decide (x.fr ≤ x.to))))))) := by
    simp only [within]; rw [Bool.eq_iff_iff]; simp only [Bool.and_eq_true, decide_eq_true_eq]; omega
  rw [h6, Bool.and_comm]
set_option maxHeartbeats 6400000 in
set_option maxRecDepth 100000 in
theorem refright_6 (x : Cel) (A : Option Addr) (c : Nat) (w : World) (hr : RdN w A x.body.length x.body) (hy : Byt x.body) (n1 : decide (x.num < 1) = false) (n2 : decide (65535 < x.num) = false) (hM : within x.min 1073741824 = true) (f1 : (x.kind == 1) = false) (f2 : (x.kind == 2) = false) (f3 : (x.kind == 3) = false) (f4 : (x.kind == 4) = false) (f5 : (x.kind == 5) = false) (f6 : (x.kind == 6) = true) (HKD : Aside0 (rightB x = (((decide (1 ≤ x.ref)) && ((decide (x.ref ≤ 65535)) && ((within x.fr 1073741824) && ((within x.to 1073741824) && ((within x.un 1073741824) && (decide (x.fr ≤ x.to))))))) && sameB x ⟨x.kind, x.num, x.min, 0, 0, 0, x.ref, x.fr, x.to, x.un, []⟩))) :
    Calls Try.prog 10 #[.agg (celA x A c)] w fun e w' => e = .returned (.bool (rightB x)) ∧ Below w.heap.size w w' := by
  have HR := Aside0.mk hr
  have HY := Aside0.mk hy
  clear hr hy
  go_enter Try.func10, Try.ntmps10
  go_upto_region 4 with (go_at_call 22; go_must (refine (minute_any x.min _).mono ?_; rintro e w4 ⟨rfl, rfl⟩; rw [hM]))
  go_cut [4] from 27 to 36 (fun v wx => v = .bool (elderB x) ∧ wx = ((w.alloc (.cells (celA x A c) 30)).alloc (.cells #[.int .i64 x.kind, .int .u64 x.num, .int .i64 x.min, .int .i64 0, .int .i64 0, .int .i64 0, .int .u64 0, .int .i64 0, .int .i64 0, .int .i64 0, .slice none 0 0] 30)))
  case first =>
    by_cases h1 : 1 ≤ x.ref
    · by_cases h2 : x.ref < x.num
      · have f1 : decide (1 ≤ x.ref) = true := decide_eq_true h1
        have f2 : decide (x.ref < x.num) = true := decide_eq_true h2
        have HE := Aside0.mk (show elderB x = true from decide_eq_true ⟨h1, h2⟩)
        clear h1 h2
        go_wp2
        go_meet
        case rel => exact ⟨by rw [HE.out], rfl⟩
      · have f1 : decide (1 ≤ x.ref) = true := decide_eq_true h1
        have f2 : decide (x.ref < x.num) = false := decide_eq_false h2
        have HE := Aside0.mk (show elderB x = false from decide_eq_false (fun h => h2 h.2))
        clear h1 h2
        go_wp2
        go_meet
        case rel => exact ⟨by rw [HE.out], rfl⟩
    · have f1 : decide (1 ≤ x.ref) = false := decide_eq_false h1
      have HE := Aside0.mk (show elderB x = false from decide_eq_false (fun h => h1 h.1))
      clear h1
      go_wp2
      go_meet
      case rel => exact ⟨by rw [HE.out], rfl⟩
  case rest =>
    obtain ⟨rfl, rfl⟩ := hcut
    go_upto_region 23 with (fail)
    go_wp2_with (fail)
    go_region
    go_upto_region 24 with (fail)
    obtain ⟨W2, hW2⟩ : ∃ W2, W2 = ((w.alloc (.cells (celA x A c) 30)).alloc (.cells #[.int .i64 x.kind, .int .u64 x.num, .int .i64 x.min, .int .i64 0, .int .i64 0, .int .i64 0, .int .u64 x.ref, .int .i64 x.fr, .int .i64 x.to, .int .i64 x.un, .slice none 0 0] 30)).drew := ⟨_, rfl⟩
    rw [← hW2]
    obtain ⟨hq1, hq2⟩ := two_blk w x ⟨x.kind, x.num, x.min, 0, 0, 0, x.ref, x.fr, x.to, x.un, []⟩ A none c 0
    have HX2 := Aside0.mk (show W2.heap[w.heap.size]? = some (.cells (celA x A c) 30 (0, 0)) by rw [hW2]; exact hq1)
    have HD2 := Aside0.mk (show W2.heap[w.heap.size + 1]? = some (.cells (celA ⟨x.kind, x.num, x.min, 0, 0, 0, x.ref, x.fr, x.to, x.un, []⟩ none 0) 30 (0, 0)) by rw [hW2]; exact hq2)
    have HB := Aside0.mk (show Below w.heap.size w W2 by rw [hW2]; exact below_drew (below_alloc (below_alloc (Below.refl _ _) _) _))
    have hx := HX2.out
    have hd := HD2.out
    obtain ⟨c0, c1, c2, c3, c4, c5, c6, c7, c8, c9⟩ := cel_at (x := x) (A := A) (c := c) hx; have c10 : W2.cell? ⟨w.heap.size, 10, none⟩ = some (.slice A x.body.length c) := blk_cell hx 10
    obtain ⟨d0, d1, d2, d3, d4, d5, d6, d7, d8, d9⟩ := cel_at (x := ⟨x.kind, x.num, x.min, 0, 0, 0, x.ref, x.fr, x.to, x.un, []⟩) (A := none) (c := 0) hd
    have d10 : W2.cell? ⟨w.heap.size + 1, 10, none⟩ = some (.slice none 0 0) := blk_cell hd 10
    simp only at d0 d1 d2 d3 d4 d5 d6 d7 d8 d9
    clear hW2 hq1 hq2 hx hd HX2 HD2
    by_cases hR : 1 ≤ x.ref
    · have gR : decide (1 ≤ x.ref) = true := decide_eq_true hR
      by_cases hS : x.ref ≤ 65535
      · have gS : decide (x.ref ≤ 65535) = true := decide_eq_true hS
        cases hF : within x.fr 1073741824 with
        | false =>
          have HE := Aside0.mk (show rightB x = false by rw [HKD.out]; simp [hR, hS, hF])
          go_wp2_with (first | (go_at_call 24; go_must (refine (refsame_any x ⟨x.kind, x.num, x.min, 0, 0, 0, x.ref, x.fr, x.to, x.un, []⟩ A none c 0 _ (Kd.C_below HR.out HB.out) (RdB_nil _) HY.out Byt.nil).mono ?_; rintro e w3 ⟨rfl, hb⟩; replace HB := Aside0.mk (HB.out.trans (hb.mono HB.out.size)); clear hb)) | (go_at_call 22; first | ((with_reducible refine (minute_any x.fr _).mono ?_); rintro e w9 ⟨rfl, rfl⟩; rw [hF]) | ((with_reducible refine (minute_any x.to _).mono ?_); rintro e w9 ⟨rfl, rfl⟩; rw [hO]) | ((with_reducible refine (minute_any x.un _).mono ?_); rintro e w9 ⟨rfl, rfl⟩; rw [hU])))
          go_ret
          exact ⟨retB HE.out.symm, HB.out⟩
        | true =>
          cases hO : within x.to 1073741824 with
          | false =>
            have HE := Aside0.mk (show rightB x = false by rw [HKD.out]; simp [hR, hS, hF, hO])
            go_wp2_with (first | (go_at_call 24; go_must (refine (refsame_any x ⟨x.kind, x.num, x.min, 0, 0, 0, x.ref, x.fr, x.to, x.un, []⟩ A none c 0 _ (Kd.C_below HR.out HB.out) (RdB_nil _) HY.out Byt.nil).mono ?_; rintro e w3 ⟨rfl, hb⟩; replace HB := Aside0.mk (HB.out.trans (hb.mono HB.out.size)); clear hb)) | (go_at_call 22; first | ((with_reducible refine (minute_any x.fr _).mono ?_); rintro e w9 ⟨rfl, rfl⟩; rw [hF]) | ((with_reducible refine (minute_any x.to _).mono ?_); rintro e w9 ⟨rfl, rfl⟩; rw [hO]) | ((with_reducible refine (minute_any x.un _).mono ?_); rintro e w9 ⟨rfl, rfl⟩; rw [hU])))
            go_ret
            exact ⟨retB HE.out.symm, HB.out⟩
          | true =>
            cases hU : within x.un 1073741824 with
            | false =>
              have HE := Aside0.mk (show rightB x = false by rw [HKD.out]; simp [hR, hS, hF, hO, hU])
              go_wp2_with (first | (go_at_call 24; go_must (refine (refsame_any x ⟨x.kind, x.num, x.min, 0, 0, 0, x.ref, x.fr, x.to, x.un, []⟩ A none c 0 _ (Kd.C_below HR.out HB.out) (RdB_nil _) HY.out Byt.nil).mono ?_; rintro e w3 ⟨rfl, hb⟩; replace HB := Aside0.mk (HB.out.trans (hb.mono HB.out.size)); clear hb)) | (go_at_call 22; first | ((with_reducible refine (minute_any x.fr _).mono ?_); rintro e w9 ⟨rfl, rfl⟩; rw [hF]) | ((with_reducible refine (minute_any x.to _).mono ?_); rintro e w9 ⟨rfl, rfl⟩; rw [hO]) | ((with_reducible refine (minute_any x.un _).mono ?_); rintro e w9 ⟨rfl, rfl⟩; rw [hU])))
              go_ret
              exact ⟨retB HE.out.symm, HB.out⟩
            | true =>
              by_cases hI : x.fr ≤ x.to
              · have gI : decide (x.fr ≤ x.to) = true := decide_eq_true hI
                have HE := Aside0.mk (show rightB x = sameB x ⟨x.kind, x.num, x.min, 0, 0, 0, x.ref, x.fr, x.to, x.un, []⟩ by rw [HKD.out]; simp [hR, hS, hF, hO, hU, hI])
                go_wp2_with (first | (go_at_call 24; go_must (refine (refsame_any x ⟨x.kind, x.num, x.min, 0, 0, 0, x.ref, x.fr, x.to, x.un, []⟩ A none c 0 _ (Kd.C_below HR.out HB.out) (RdB_nil _) HY.out Byt.nil).mono ?_; rintro e w3 ⟨rfl, hb⟩; replace HB := Aside0.mk (HB.out.trans (hb.mono HB.out.size)); clear hb)) | (go_at_call 22; first | ((with_reducible refine (minute_any x.fr _).mono ?_); rintro e w9 ⟨rfl, rfl⟩; rw [hF]) | ((with_reducible refine (minute_any x.to _).mono ?_); rintro e w9 ⟨rfl, rfl⟩; rw [hO]) | ((with_reducible refine (minute_any x.un _).mono ?_); rintro e w9 ⟨rfl, rfl⟩; rw [hU])))
                go_ret
                exact ⟨retB HE.out.symm, HB.out⟩
              · have gI : decide (x.fr ≤ x.to) = false := decide_eq_false hI
                have HE := Aside0.mk (show rightB x = false by rw [HKD.out]; simp [hR, hS, hF, hO, hU, hI])
                go_wp2_with (first | (go_at_call 24; go_must (refine (refsame_any x ⟨x.kind, x.num, x.min, 0, 0, 0, x.ref, x.fr, x.to, x.un, []⟩ A none c 0 _ (Kd.C_below HR.out HB.out) (RdB_nil _) HY.out Byt.nil).mono ?_; rintro e w3 ⟨rfl, hb⟩; replace HB := Aside0.mk (HB.out.trans (hb.mono HB.out.size)); clear hb)) | (go_at_call 22; first | ((with_reducible refine (minute_any x.fr _).mono ?_); rintro e w9 ⟨rfl, rfl⟩; rw [hF]) | ((with_reducible refine (minute_any x.to _).mono ?_); rintro e w9 ⟨rfl, rfl⟩; rw [hO]) | ((with_reducible refine (minute_any x.un _).mono ?_); rintro e w9 ⟨rfl, rfl⟩; rw [hU])))
                go_ret
                exact ⟨retB HE.out.symm, HB.out⟩
      · have gS : decide (x.ref ≤ 65535) = false := decide_eq_false hS
        have HE := Aside0.mk (show rightB x = false by rw [HKD.out]; simp [hR, hS])
        go_wp2_with (first | (go_at_call 24; go_must (refine (refsame_any x ⟨x.kind, x.num, x.min, 0, 0, 0, x.ref, x.fr, x.to, x.un, []⟩ A none c 0 _ (Kd.C_below HR.out HB.out) (RdB_nil _) HY.out Byt.nil).mono ?_; rintro e w3 ⟨rfl, hb⟩; replace HB := Aside0.mk (HB.out.trans (hb.mono HB.out.size)); clear hb)) | (go_at_call 22; first | ((with_reducible refine (minute_any x.fr _).mono ?_); rintro e w9 ⟨rfl, rfl⟩; rw [hF]) | ((with_reducible refine (minute_any x.to _).mono ?_); rintro e w9 ⟨rfl, rfl⟩; rw [hO]) | ((with_reducible refine (minute_any x.un _).mono ?_); rintro e w9 ⟨rfl, rfl⟩; rw [hU])))
        go_ret
        exact ⟨retB HE.out.symm, HB.out⟩
    · have gR : decide (1 ≤ x.ref) = false := decide_eq_false hR
      have HE := Aside0.mk (show rightB x = false by rw [HKD.out]; simp [hR])
      go_wp2_with (first | (go_at_call 24; go_must (refine (refsame_any x ⟨x.kind, x.num, x.min, 0, 0, 0, x.ref, x.fr, x.to, x.un, []⟩ A none c 0 _ (Kd.C_below HR.out HB.out) (RdB_nil _) HY.out Byt.nil).mono ?_; rintro e w3 ⟨rfl, hb⟩; replace HB := Aside0.mk (HB.out.trans (hb.mono HB.out.size)); clear hb)) | (go_at_call 22; first | ((with_reducible refine (minute_any x.fr _).mono ?_); rintro e w9 ⟨rfl, rfl⟩; rw [hF]) | ((with_reducible refine (minute_any x.to _).mono ?_); rintro e w9 ⟨rfl, rfl⟩; rw [hO]) | ((with_reducible refine (minute_any x.un _).mono ?_); rintro e w9 ⟨rfl, rfl⟩; rw [hU])))
      go_ret
      exact ⟨retB HE.out.symm, HB.out⟩
theorem rr7 (x : Cel) (hk : x.kind = 7) (hn : numOk x = true) : rightB x = (((decide (1 ≤ x.ref)) && (decide (x.ref ≤ 65535))) && sameB x ⟨x.kind, x.num, x.min, 0, 0, 0, x.ref, 0, 0, 0, []⟩) := by
  have hs : sameB x (keepC x) = sameB x ⟨x.kind, x.num, x.min, 0, 0, 0, x.ref, 0, 0, 0, []⟩ := by simp only [keepC, hk, show hasPlace 7 = false from rfl, show hasRef 7 = true from rfl, show hasMin 7 = false from rfl, show hasBody 7 = false from rfl, show hasKind 7 = true from rfl, if_true, Bool.false_eq_true, if_false]
  unfold numOk at hn
  simp only [Bool.and_eq_true] at hn
  obtain ⟨hn1, hn2, hn3⟩ := hn
  rw [rightB, hs, hn1, hn2, hn3, show hasKind x.kind = true by rw [hk]; rfl, fieldsB, hk]
  simp only [fieldsK, Bool.true_and, if_true, show ¬ (7 : Int) = 1 by decide, show ¬ (7 : Int) = 2 by decide, show ¬ (7 : Int) = 3 by decide, show ¬ (7 : Int) = 4 by decide, show ¬ (7 : Int) = 5 by decide, show ¬ (7 : Int) = 6 by decide, if_false]
  generalize sameB x _ = s_
  generalize decide (1 ≤ x.ref) = b0
  generalize decide (x.ref ≤ 65535) = b1
  cases s_ <;> cases b0 <;> cases b1 <;> rfl
set_option maxHeartbeats 6400000 in
set_option maxRecDepth 100000 in
theorem refright_7 (x : Cel) (A : Option Addr) (c : Nat) (w : World) (hr : RdN w A x.body.length x.body) (hy : Byt x.body) (n1 : decide (x.num < 1) = false) (n2 : decide (65535 < x.num) = false) (hM : within x.min 1073741824 = true) (f1 : (x.kind == 1) = false) (f2 : (x.kind == 2) = false) (f3 : (x.kind == 3) = false) (f4 : (x.kind == 4) = false) (f5 : (x.kind == 5) = false) (f6 : (x.kind == 6) = false) (f7 : (x.kind == 7) = true) (HKD : Aside0 (rightB x = (((decide (1 ≤ x.ref)) && (decide (x.ref ≤ 65535))) && sameB x ⟨x.kind, x.num, x.min, 0, 0, 0, x.ref, 0, 0, 0, []⟩))) :
    Calls Try.prog 10 #[.agg (celA x A c)] w fun e w' => e = .returned (.bool (rightB x)) ∧ Below w.heap.size w w' := by
  have HR := Aside0.mk hr
  have HY := Aside0.mk hy
  clear hr hy
  go_enter Try.func10, Try.ntmps10
  go_upto_region 4 with (go_at_call 22; go_must (refine (minute_any x.min _).mono ?_; rintro e w4 ⟨rfl, rfl⟩; rw [hM]))
  go_cut [4] from 27 to 36 (fun v wx => v = .bool (elderB x) ∧ wx = ((w.alloc (.cells (celA x A c) 30)).alloc (.cells #[.int .i64 x.kind, .int .u64 x.num, .int .i64 x.min, .int .i64 0, .int .i64 0, .int .i64 0, .int .u64 0, .int .i64 0, .int .i64 0, .int .i64 0, .slice none 0 0] 30)))
  case first =>
    by_cases h1 : 1 ≤ x.ref
    · by_cases h2 : x.ref < x.num
      · have f1 : decide (1 ≤ x.ref) = true := decide_eq_true h1
        have f2 : decide (x.ref < x.num) = true := decide_eq_true h2
        have HE := Aside0.mk (show elderB x = true from decide_eq_true ⟨h1, h2⟩)
        clear h1 h2
        go_wp2
        go_meet
        case rel => exact ⟨by rw [HE.out], rfl⟩
      · have f1 : decide (1 ≤ x.ref) = true := decide_eq_true h1
        have f2 : decide (x.ref < x.num) = false := decide_eq_false h2
        have HE := Aside0.mk (show elderB x = false from decide_eq_false (fun h => h2 h.2))
        clear h1 h2
        go_wp2
        go_meet
        case rel => exact ⟨by rw [HE.out], rfl⟩
    · have f1 : decide (1 ≤ x.ref) = false := decide_eq_false h1
      have HE := Aside0.mk (show elderB x = false from decide_eq_false (fun h => h1 h.1))
      clear h1
      go_wp2
      go_meet
      case rel => exact ⟨by rw [HE.out], rfl⟩
  case rest =>
    obtain ⟨rfl, rfl⟩ := hcut
    go_upto_region 27 with (fail)
    obtain ⟨W2, hW2⟩ : ∃ W2, W2 = ((w.alloc (.cells (celA x A c) 30)).alloc (.cells #[.int .i64 x.kind, .int .u64 x.num, .int .i64 x.min, .int .i64 0, .int .i64 0, .int .i64 0, .int .u64 x.ref, .int .i64 0, .int .i64 0, .int .i64 0, .slice none 0 0] 30)) := ⟨_, rfl⟩
    rw [← hW2]
    obtain ⟨hq1, hq2⟩ := two_blk w x ⟨x.kind, x.num, x.min, 0, 0, 0, x.ref, 0, 0, 0, []⟩ A none c 0
    have HX2 := Aside0.mk (show W2.heap[w.heap.size]? = some (.cells (celA x A c) 30 (0, 0)) by rw [hW2]; exact hq1)
    have HD2 := Aside0.mk (show W2.heap[w.heap.size + 1]? = some (.cells (celA ⟨x.kind, x.num, x.min, 0, 0, 0, x.ref, 0, 0, 0, []⟩ none 0) 30 (0, 0)) by rw [hW2]; exact hq2)
    have HB := Aside0.mk (show Below w.heap.size w W2 by rw [hW2]; exact below_alloc (below_alloc (Below.refl _ _) _) _)
    have hx := HX2.out
    have hd := HD2.out
    obtain ⟨c0, c1, c2, c3, c4, c5, c6, c7, c8, c9⟩ := cel_at (x := x) (A := A) (c := c) hx; have c10 : W2.cell? ⟨w.heap.size, 10, none⟩ = some (.slice A x.body.length c) := blk_cell hx 10
    obtain ⟨d0, d1, d2, d3, d4, d5, d6, d7, d8, d9⟩ := cel_at (x := ⟨x.kind, x.num, x.min, 0, 0, 0, x.ref, 0, 0, 0, []⟩) (A := none) (c := 0) hd
    have d10 : W2.cell? ⟨w.heap.size + 1, 10, none⟩ = some (.slice none 0 0) := blk_cell hd 10
    simp only at d0 d1 d2 d3 d4 d5 d6 d7 d8 d9
    clear hW2 hq1 hq2 hx hd HX2 HD2
    by_cases hR : 1 ≤ x.ref
    · have gR : decide (1 ≤ x.ref) = true := decide_eq_true hR
      by_cases hS : x.ref ≤ 65535
      · have gS : decide (x.ref ≤ 65535) = true := decide_eq_true hS
        have HE := Aside0.mk (show rightB x = sameB x ⟨x.kind, x.num, x.min, 0, 0, 0, x.ref, 0, 0, 0, []⟩ by rw [HKD.out]; simp [hR, hS])
        go_wp2_with (first | (go_at_call 24; go_must (refine (refsame_any x ⟨x.kind, x.num, x.min, 0, 0, 0, x.ref, 0, 0, 0, []⟩ A none c 0 _ (Kd.C_below HR.out HB.out) (RdB_nil _) HY.out Byt.nil).mono ?_; rintro e w3 ⟨rfl, hb⟩; replace HB := Aside0.mk (HB.out.trans (hb.mono HB.out.size)); clear hb)))
        go_ret
        exact ⟨retB HE.out.symm, HB.out⟩
      · have gS : decide (x.ref ≤ 65535) = false := decide_eq_false hS
        have HE := Aside0.mk (show rightB x = false by rw [HKD.out]; simp [hR, hS])
        go_wp2_with (first | (go_at_call 24; go_must (refine (refsame_any x ⟨x.kind, x.num, x.min, 0, 0, 0, x.ref, 0, 0, 0, []⟩ A none c 0 _ (Kd.C_below HR.out HB.out) (RdB_nil _) HY.out Byt.nil).mono ?_; rintro e w3 ⟨rfl, hb⟩; replace HB := Aside0.mk (HB.out.trans (hb.mono HB.out.size)); clear hb)))
        go_ret
        exact ⟨retB HE.out.symm, HB.out⟩
    · have gR : decide (1 ≤ x.ref) = false := decide_eq_false hR
      have HE := Aside0.mk (show rightB x = false by rw [HKD.out]; simp [hR])
      go_wp2_with (first | (go_at_call 24; go_must (refine (refsame_any x ⟨x.kind, x.num, x.min, 0, 0, 0, x.ref, 0, 0, 0, []⟩ A none c 0 _ (Kd.C_below HR.out HB.out) (RdB_nil _) HY.out Byt.nil).mono ?_; rintro e w3 ⟨rfl, hb⟩; replace HB := Aside0.mk (HB.out.trans (hb.mono HB.out.size)); clear hb)))
      go_ret
      exact ⟨retB HE.out.symm, HB.out⟩
theorem rr8 (x : Cel) (hk : x.kind = 8) (hn : numOk x = true) : rightB x = (true && sameB x ⟨x.kind, x.num, x.min, 0, 0, 0, 0, 0, 0, 0, []⟩) := by
  have hs : sameB x (keepC x) = sameB x ⟨x.kind, x.num, x.min, 0, 0, 0, 0, 0, 0, 0, []⟩ := by simp only [keepC, hk, show hasPlace 8 = false from rfl, show hasRef 8 = false from rfl, show hasMin 8 = false from rfl, show hasBody 8 = false from rfl, show hasKind 8 = true from rfl, if_true, Bool.false_eq_true, if_false]
  unfold numOk at hn
  simp only [Bool.and_eq_true] at hn
  obtain ⟨hn1, hn2, hn3⟩ := hn
  rw [rightB, hs, hn1, hn2, hn3, show hasKind x.kind = true by rw [hk]; rfl, fieldsB, hk]
  simp only [fieldsK, Bool.true_and, if_true, show ¬ (8 : Int) = 1 by decide, show ¬ (8 : Int) = 2 by decide, show ¬ (8 : Int) = 3 by decide, show ¬ (8 : Int) = 4 by decide, show ¬ (8 : Int) = 5 by decide, show ¬ (8 : Int) = 6 by decide, show ¬ (8 : Int) = 7 by decide, if_false]
  generalize sameB x _ = s_
  cases s_ <;> rfl
set_option maxHeartbeats 6400000 in
set_option maxRecDepth 100000 in
theorem refright_8 (x : Cel) (A : Option Addr) (c : Nat) (w : World) (hr : RdN w A x.body.length x.body) (hy : Byt x.body) (n1 : decide (x.num < 1) = false) (n2 : decide (65535 < x.num) = false) (hM : within x.min 1073741824 = true) (f1 : (x.kind == 1) = false) (f2 : (x.kind == 2) = false) (f3 : (x.kind == 3) = false) (f4 : (x.kind == 4) = false) (f5 : (x.kind == 5) = false) (f6 : (x.kind == 6) = false) (f7 : (x.kind == 7) = false) (f8 : (x.kind == 8) = true) (HKD : Aside0 (rightB x = (true && sameB x ⟨x.kind, x.num, x.min, 0, 0, 0, 0, 0, 0, 0, []⟩))) :
    Calls Try.prog 10 #[.agg (celA x A c)] w fun e w' => e = .returned (.bool (rightB x)) ∧ Below w.heap.size w w' := by
  have HR := Aside0.mk hr
  have HY := Aside0.mk hy
  clear hr hy
  go_enter Try.func10, Try.ntmps10
  go_upto_region 4 with (go_at_call 22; go_must (refine (minute_any x.min _).mono ?_; rintro e w4 ⟨rfl, rfl⟩; rw [hM]))
  go_cut [4] from 27 to 36 (fun v wx => v = .bool (elderB x) ∧ wx = ((w.alloc (.cells (celA x A c) 30)).alloc (.cells #[.int .i64 x.kind, .int .u64 x.num, .int .i64 x.min, .int .i64 0, .int .i64 0, .int .i64 0, .int .u64 0, .int .i64 0, .int .i64 0, .int .i64 0, .slice none 0 0] 30)))
  case first =>
    by_cases h1 : 1 ≤ x.ref
    · by_cases h2 : x.ref < x.num
      · have f1 : decide (1 ≤ x.ref) = true := decide_eq_true h1
        have f2 : decide (x.ref < x.num) = true := decide_eq_true h2
        have HE := Aside0.mk (show elderB x = true from decide_eq_true ⟨h1, h2⟩)
        clear h1 h2
        go_wp2
        go_meet
        case rel => exact ⟨by rw [HE.out], rfl⟩
      · have f1 : decide (1 ≤ x.ref) = true := decide_eq_true h1
        have f2 : decide (x.ref < x.num) = false := decide_eq_false h2
        have HE := Aside0.mk (show elderB x = false from decide_eq_false (fun h => h2 h.2))
        clear h1 h2
        go_wp2
        go_meet
        case rel => exact ⟨by rw [HE.out], rfl⟩
    · have f1 : decide (1 ≤ x.ref) = false := decide_eq_false h1
      have HE := Aside0.mk (show elderB x = false from decide_eq_false (fun h => h1 h.1))
      clear h1
      go_wp2
      go_meet
      case rel => exact ⟨by rw [HE.out], rfl⟩
  case rest =>
    obtain ⟨rfl, rfl⟩ := hcut
    go_upto_region 30 with (fail)
    obtain ⟨W2, hW2⟩ : ∃ W2, W2 = ((w.alloc (.cells (celA x A c) 30)).alloc (.cells #[.int .i64 x.kind, .int .u64 x.num, .int .i64 x.min, .int .i64 0, .int .i64 0, .int .i64 0, .int .u64 0, .int .i64 0, .int .i64 0, .int .i64 0, .slice none 0 0] 30)) := ⟨_, rfl⟩
    rw [← hW2]
    obtain ⟨hq1, hq2⟩ := two_blk w x ⟨x.kind, x.num, x.min, 0, 0, 0, 0, 0, 0, 0, []⟩ A none c 0
    have HX2 := Aside0.mk (show W2.heap[w.heap.size]? = some (.cells (celA x A c) 30 (0, 0)) by rw [hW2]; exact hq1)
    have HD2 := Aside0.mk (show W2.heap[w.heap.size + 1]? = some (.cells (celA ⟨x.kind, x.num, x.min, 0, 0, 0, 0, 0, 0, 0, []⟩ none 0) 30 (0, 0)) by rw [hW2]; exact hq2)
    have HB := Aside0.mk (show Below w.heap.size w W2 by rw [hW2]; exact below_alloc (below_alloc (Below.refl _ _) _) _)
    have hx := HX2.out
    have hd := HD2.out
    obtain ⟨c0, c1, c2, c3, c4, c5, c6, c7, c8, c9⟩ := cel_at (x := x) (A := A) (c := c) hx; have c10 : W2.cell? ⟨w.heap.size, 10, none⟩ = some (.slice A x.body.length c) := blk_cell hx 10
    obtain ⟨d0, d1, d2, d3, d4, d5, d6, d7, d8, d9⟩ := cel_at (x := ⟨x.kind, x.num, x.min, 0, 0, 0, 0, 0, 0, 0, []⟩) (A := none) (c := 0) hd
    have d10 : W2.cell? ⟨w.heap.size + 1, 10, none⟩ = some (.slice none 0 0) := blk_cell hd 10
    simp only at d0 d1 d2 d3 d4 d5 d6 d7 d8 d9
    clear hW2 hq1 hq2 hx hd HX2 HD2
    have HE := Aside0.mk (show rightB x = sameB x ⟨x.kind, x.num, x.min, 0, 0, 0, 0, 0, 0, 0, []⟩ by rw [HKD.out]; simp [Bool.true_and])
    go_wp2_with (first | (go_at_call 24; go_must (refine (refsame_any x ⟨x.kind, x.num, x.min, 0, 0, 0, 0, 0, 0, 0, []⟩ A none c 0 _ (Kd.C_below HR.out HB.out) (RdB_nil _) HY.out Byt.nil).mono ?_; rintro e w3 ⟨rfl, hb⟩; replace HB := Aside0.mk (HB.out.trans (hb.mono HB.out.size)); clear hb)))
    go_ret
    exact ⟨retB HE.out.symm, HB.out⟩
end Go.Proofs.Ytghcnipehgjegaa.Cell
