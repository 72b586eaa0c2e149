/- What bytes.Equal and cell.Same answer. Conditions stand in each statement. -/
import Derived.Test.YtghcnipehgjegaaBytes
import Derived.Test.YtghcnipehgjegaaCellFields
namespace Go.Proofs.Ytghcnipehgjegaa.Cell
open Go.RowKit Go.Proofs.YtghcnipehgjegaaW.PrintWords Go.Proofs.YtghcnipehgjegaaW.PrintLast Go.Proofs.YtghcnipehgjegaaW.PrintMore Go.Proofs.Ytghcnipehgjegaa.Kit Go.Proofs.Ytghcnipehgjegaa.Plain
set_option linter.unusedVariables false
set_option linter.unusedSimpArgs false
set_option maxHeartbeats 800000 in
set_option maxRecDepth 100000 in
theorem equal_any (A : Option Addr) (n c : Nat) (a : List Int) (B : Option Addr) (n' c' : Nat) (b : List Int) (w : World) (hr : RdN w A n a) (hr' : RdN w B n' b) (hy : Byt a) (hy' : Byt b) :
    Calls Try.prog 46 #[.slice A n c, .slice B n' c'] w fun e w' => e = .returned (.bool (decide (a = b))) ∧ Below w.heap.size w w' := by
  obtain rfl := C_len hr
  obtain rfl := C_len hr'
  have hs1 := Kd.C_string (P := Try.prog) (c := c) Try.underlying28 Try.underlying5 Try.underlying9 hr
  have hs2 := Kd.C_string (P := Try.prog) (c := c') Try.underlying28 Try.underlying5 Try.underlying9 hr'
  go_enter Try.func46, Try.ntmps46
  go_wp2
  go_ret
  refine ⟨retB ?_, Below.refl _ _⟩
  rw [str_list, str_list, Bool.eq_iff_iff, beq_iff_eq, decide_eq_true_eq]
  exact ⟨fun h => map_u8_inj hy hy' h, fun h => by rw [h]⟩
abbrev CelAt (W : World) (g : Nat) (x : Cel) : Prop :=
  W.cell? ⟨g, 0, none⟩ = some (.int .i64 x.kind) ∧ W.cell? ⟨g, 1, none⟩ = some (.int .u64 x.num) ∧ W.cell? ⟨g, 2, none⟩ = some (.int .i64 x.min) ∧ W.cell? ⟨g, 3, none⟩ = some (.int .i64 x.br) ∧ W.cell? ⟨g, 4, none⟩ = some (.int .i64 x.vol) ∧ W.cell? ⟨g, 5, none⟩ = some (.int .i64 x.blk) ∧
  W.cell? ⟨g, 6, none⟩ = some (.int .u64 x.ref) ∧ W.cell? ⟨g, 7, none⟩ = some (.int .i64 x.fr) ∧ W.cell? ⟨g, 8, none⟩ = some (.int .i64 x.to) ∧ W.cell? ⟨g, 9, none⟩ = some (.int .i64 x.un)
theorem cel_at {W : World} {g : Nat} {x : Cel} {A : Option Addr} {c : Nat} (h : W.heap[g]? = some (.cells (celA x A c) 30 (0, 0))) : CelAt W g x :=
  ⟨blk_cell h 0, blk_cell h 1, blk_cell h 2, blk_cell h 3, blk_cell h 4, blk_cell h 5, blk_cell h 6, blk_cell h 7, blk_cell h 8, blk_cell h 9⟩
theorem two_cells {w w' : World} {x y : Cel} {A B : Option Addr} {c c' : Nat} (hb : Below ((w.alloc (.cells (celA x A c) 30)).alloc (.cells (celA y B c') 30)).heap.size ((w.alloc (.cells (celA x A c) 30)).alloc (.cells (celA y B c') 30)) w') :
    CelAt w' w.heap.size x ∧ CelAt w' (w.heap.size + 1) y ∧ Below w.heap.size w w' := by
  have h1 := blk_new (w.alloc (.cells (celA x A c) 30)) (.cells (celA y B c') 30)
  rw [show (w.alloc (.cells (celA x A c) 30)).heap.size = w.heap.size + 1 by simp] at h1
  exact ⟨cel_at (x := x) (A := A) (c := c) ((hb.block _ (by simp; omega)).trans (blk_alloc (blk_new w _) _)), cel_at (x := y) (A := B) (c := c') ((hb.block _ (by simp)).trans h1), (below_alloc (below_alloc (Below.refl _ _) _) _).trans (hb.mono (by simp; omega))⟩
set_option maxHeartbeats 3200000 in
set_option maxRecDepth 100000 in
theorem same_any (x y : Cel) (A B : Option Addr) (c c' : Nat) (w : World) (hr : RdN w A x.body.length x.body) (hr' : RdN w B y.body.length y.body) (hy : Byt x.body) (hy' : Byt y.body) :
    Calls Try.prog 43 #[.agg (celA x A c), .agg (celA y B c')] w fun e w' => e = .returned (.bool (sameB x y)) ∧ Below w.heap.size w w' := by
  have HR := Aside0.mk hr
  have HR2 := Aside0.mk hr'
  have HY := Aside0.mk (And.intro hy hy')
  clear hr hr' hy hy'
  by_cases hbd : x.body = y.body
  · have hbody : decide (x.body = y.body) = true := decide_eq_true hbd
    have Hbd := Aside0.mk hbd
    clear hbd
    by_cases hkind : x.kind = y.kind
    · have gkind : (x.kind == y.kind) = true := beq_iff_eq.2 hkind
      have Hkind := Aside0.mk hkind
      clear hkind
      by_cases hnum : x.num = y.num
      · have gnum : (x.num == y.num) = true := beq_iff_eq.2 hnum
        have Hnum := Aside0.mk hnum
        clear hnum
        by_cases hmin : x.min = y.min
        · have gmin : (x.min == y.min) = true := beq_iff_eq.2 hmin
          have Hmin := Aside0.mk hmin
          clear hmin
          by_cases hbr : x.br = y.br
          · have gbr : (x.br == y.br) = true := beq_iff_eq.2 hbr
            have Hbr := Aside0.mk hbr
            clear hbr
            by_cases hvol : x.vol = y.vol
            · have gvol : (x.vol == y.vol) = true := beq_iff_eq.2 hvol
              have Hvol := Aside0.mk hvol
              clear hvol
              by_cases hblk : x.blk = y.blk
              · have gblk : (x.blk == y.blk) = true := beq_iff_eq.2 hblk
                have Hblk := Aside0.mk hblk
                clear hblk
                by_cases href : x.ref = y.ref
                · have gref : (x.ref == y.ref) = true := beq_iff_eq.2 href
                  have Href := Aside0.mk href
                  clear href
                  by_cases hfr : x.fr = y.fr
                  · have gfr : (x.fr == y.fr) = true := beq_iff_eq.2 hfr
                    have Hfr := Aside0.mk hfr
                    clear hfr
                    by_cases hto : x.to = y.to
                    · have gto : (x.to == y.to) = true := beq_iff_eq.2 hto
                      have Hto := Aside0.mk hto
                      clear hto
                      by_cases hun : x.un = y.un
                      · have gun : (x.un == y.un) = true := beq_iff_eq.2 hun
                        have Hun := Aside0.mk hun
                        clear hun
                        have HS := Aside0.mk (show sameB x y = true from decide_eq_true (cel_ext Hkind.out Hnum.out Hmin.out Hbr.out Hvol.out Hblk.out Href.out Hfr.out Hto.out Hun.out Hbd.out))
                        go_enter Try.func43, Try.ntmps43
                        go_wp2_with (go_at_call 46; go_must (refine (equal_any A _ c x.body B _ c' y.body _ (Kd.C_below HR.out (below_alloc (below_alloc (Below.refl _ _) _) _)) (Kd.C_below HR2.out (below_alloc (below_alloc (Below.refl _ _) _) _)) HY.out.1 HY.out.2).mono ?_; rintro e w1 ⟨rfl, hb⟩; rw [hbody]; have hks := two_cells hb; obtain ⟨⟨c0, c1, c2, c3, c4, c5, c6, c7, c8, c9⟩, ⟨d0, d1, d2, d3, d4, d5, d6, d7, d8, d9⟩, hb3⟩ := hks; have HB := Aside0.mk hb3; clear hb hb3))
                        go_ret
                        exact ⟨retB HS.out.symm, HB.out⟩
                      · have gun : (x.un == y.un) = false := beq_eq_false_iff_ne.2 hun
                        have HS := Aside0.mk (show sameB x y = false from decide_eq_false (fun e => hun (congrArg Cel.un e)))
                        clear hun
                        go_enter Try.func43, Try.ntmps43
                        go_wp2_with (go_at_call 46; go_must (refine (equal_any A _ c x.body B _ c' y.body _ (Kd.C_below HR.out (below_alloc (below_alloc (Below.refl _ _) _) _)) (Kd.C_below HR2.out (below_alloc (below_alloc (Below.refl _ _) _) _)) HY.out.1 HY.out.2).mono ?_; rintro e w1 ⟨rfl, hb⟩; rw [hbody]; have hks := two_cells hb; obtain ⟨⟨c0, c1, c2, c3, c4, c5, c6, c7, c8, c9⟩, ⟨d0, d1, d2, d3, d4, d5, d6, d7, d8, d9⟩, hb3⟩ := hks; have HB := Aside0.mk hb3; clear hb hb3))
                        go_ret
                        exact ⟨retB HS.out.symm, HB.out⟩
                    · have gto : (x.to == y.to) = false := beq_eq_false_iff_ne.2 hto
                      have HS := Aside0.mk (show sameB x y = false from decide_eq_false (fun e => hto (congrArg Cel.to e)))
                      clear hto
                      go_enter Try.func43, Try.ntmps43
                      go_wp2_with (go_at_call 46; go_must (refine (equal_any A _ c x.body B _ c' y.body _ (Kd.C_below HR.out (below_alloc (below_alloc (Below.refl _ _) _) _)) (Kd.C_below HR2.out (below_alloc (below_alloc (Below.refl _ _) _) _)) HY.out.1 HY.out.2).mono ?_; rintro e w1 ⟨rfl, hb⟩; rw [hbody]; have hks := two_cells hb; obtain ⟨⟨c0, c1, c2, c3, c4, c5, c6, c7, c8, c9⟩, ⟨d0, d1, d2, d3, d4, d5, d6, d7, d8, d9⟩, hb3⟩ := hks; have HB := Aside0.mk hb3; clear hb hb3))
                      go_ret
                      exact ⟨retB HS.out.symm, HB.out⟩
                  · have gfr : (x.fr == y.fr) = false := beq_eq_false_iff_ne.2 hfr
                    have HS := Aside0.mk (show sameB x y = false from decide_eq_false (fun e => hfr (congrArg Cel.fr e)))
                    clear hfr
                    go_enter Try.func43, Try.ntmps43
                    go_wp2_with (go_at_call 46; go_must (refine (equal_any A _ c x.body B _ c' y.body _ (Kd.C_below HR.out (below_alloc (below_alloc (Below.refl _ _) _) _)) (Kd.C_below HR2.out (below_alloc (below_alloc (Below.refl _ _) _) _)) HY.out.1 HY.out.2).mono ?_; rintro e w1 ⟨rfl, hb⟩; rw [hbody]; have hks := two_cells hb; obtain ⟨⟨c0, c1, c2, c3, c4, c5, c6, c7, c8, c9⟩, ⟨d0, d1, d2, d3, d4, d5, d6, d7, d8, d9⟩, hb3⟩ := hks; have HB := Aside0.mk hb3; clear hb hb3))
                    go_ret
                    exact ⟨retB HS.out.symm, HB.out⟩
                · have gref : (x.ref == y.ref) = false := beq_eq_false_iff_ne.2 href
                  have HS := Aside0.mk (show sameB x y = false from decide_eq_false (fun e => href (congrArg Cel.ref e)))
                  clear href
                  go_enter Try.func43, Try.ntmps43
                  go_wp2_with (go_at_call 46; go_must (refine (equal_any A _ c x.body B _ c' y.body _ (Kd.C_below HR.out (below_alloc (below_alloc (Below.refl _ _) _) _)) (Kd.C_below HR2.out (below_alloc (below_alloc (Below.refl _ _) _) _)) HY.out.1 HY.out.2).mono ?_; rintro e w1 ⟨rfl, hb⟩; rw [hbody]; have hks := two_cells hb; obtain ⟨⟨c0, c1, c2, c3, c4, c5, c6, c7, c8, c9⟩, ⟨d0, d1, d2, d3, d4, d5, d6, d7, d8, d9⟩, hb3⟩ := hks; have HB := Aside0.mk hb3; clear hb hb3))
                  go_ret
                  exact ⟨retB HS.out.symm, HB.out⟩
              · have gblk : (x.blk == y.blk) = false := beq_eq_false_iff_ne.2 hblk
                have HS := Aside0.mk (show sameB x y = false from decide_eq_false (fun e => hblk (congrArg Cel.blk e)))
                skip
                go_enter Try.func43, Try.ntmps43
                go_wp2_with (go_at_call 46; go_must (refine (equal_any A _ c x.body B _ c' y.body _ (Kd.C_below HR.out (below_alloc (below_alloc (Below.refl _ _) _) _)) (Kd.C_below HR2.out (below_alloc (below_alloc (Below.refl _ _) _) _)) HY.out.1 HY.out.2).mono ?_; rintro e w1 ⟨rfl, hb⟩; rw [hbody]; have hks := two_cells hb; obtain ⟨⟨c0, c1, c2, c3, c4, c5, c6, c7, c8, c9⟩, ⟨d0, d1, d2, d3, d4, d5, d6, d7, d8, d9⟩, hb3⟩ := hks; have HB := Aside0.mk hb3; clear hb hb3))
                go_ret
                exact ⟨retB HS.out.symm, HB.out⟩
            · have gvol : (x.vol == y.vol) = false := beq_eq_false_iff_ne.2 hvol
              have HS := Aside0.mk (show sameB x y = false from decide_eq_false (fun e => hvol (congrArg Cel.vol e)))
              skip
              go_enter Try.func43, Try.ntmps43
              go_wp2_with (go_at_call 46; go_must (refine (equal_any A _ c x.body B _ c' y.body _ (Kd.C_below HR.out (below_alloc (below_alloc (Below.refl _ _) _) _)) (Kd.C_below HR2.out (below_alloc (below_alloc (Below.refl _ _) _) _)) HY.out.1 HY.out.2).mono ?_; rintro e w1 ⟨rfl, hb⟩; rw [hbody]; have hks := two_cells hb; obtain ⟨⟨c0, c1, c2, c3, c4, c5, c6, c7, c8, c9⟩, ⟨d0, d1, d2, d3, d4, d5, d6, d7, d8, d9⟩, hb3⟩ := hks; have HB := Aside0.mk hb3; clear hb hb3))
              go_ret
              exact ⟨retB HS.out.symm, HB.out⟩
          · have gbr : (x.br == y.br) = false := beq_eq_false_iff_ne.2 hbr
            have HS := Aside0.mk (show sameB x y = false from decide_eq_false (fun e => hbr (congrArg Cel.br e)))
            skip
            go_enter Try.func43, Try.ntmps43
            go_wp2_with (go_at_call 46; go_must (refine (equal_any A _ c x.body B _ c' y.body _ (Kd.C_below HR.out (below_alloc (below_alloc (Below.refl _ _) _) _)) (Kd.C_below HR2.out (below_alloc (below_alloc (Below.refl _ _) _) _)) HY.out.1 HY.out.2).mono ?_; rintro e w1 ⟨rfl, hb⟩; rw [hbody]; have hks := two_cells hb; obtain ⟨⟨c0, c1, c2, c3, c4, c5, c6, c7, c8, c9⟩, ⟨d0, d1, d2, d3, d4, d5, d6, d7, d8, d9⟩, hb3⟩ := hks; have HB := Aside0.mk hb3; clear hb hb3))
            go_ret
            exact ⟨retB HS.out.symm, HB.out⟩
        · have gmin : (x.min == y.min) = false := beq_eq_false_iff_ne.2 hmin
          have HS := Aside0.mk (show sameB x y = false from decide_eq_false (fun e => hmin (congrArg Cel.min e)))
          clear hmin
          go_enter Try.func43, Try.ntmps43
          go_wp2_with (go_at_call 46; go_must (refine (equal_any A _ c x.body B _ c' y.body _ (Kd.C_below HR.out (below_alloc (below_alloc (Below.refl _ _) _) _)) (Kd.C_below HR2.out (below_alloc (below_alloc (Below.refl _ _) _) _)) HY.out.1 HY.out.2).mono ?_; rintro e w1 ⟨rfl, hb⟩; rw [hbody]; have hks := two_cells hb; obtain ⟨⟨c0, c1, c2, c3, c4, c5, c6, c7, c8, c9⟩, ⟨d0, d1, d2, d3, d4, d5, d6, d7, d8, d9⟩, hb3⟩ := hks; have HB := Aside0.mk hb3; clear hb hb3))
          go_ret
          exact ⟨retB HS.out.symm, HB.out⟩
      · have gnum : (x.num == y.num) = false := beq_eq_false_iff_ne.2 hnum
        have HS := Aside0.mk (show sameB x y = false from decide_eq_false (fun e => hnum (congrArg Cel.num e)))
        clear hnum
        go_enter Try.func43, Try.ntmps43
        go_wp2_with (go_at_call 46; go_must (refine (equal_any A _ c x.body B _ c' y.body _ (Kd.C_below HR.out (below_alloc (below_alloc (Below.refl _ _) _) _)) (Kd.C_below HR2.out (below_alloc (below_alloc (Below.refl _ _) _) _)) HY.out.1 HY.out.2).mono ?_; rintro e w1 ⟨rfl, hb⟩; rw [hbody]; have hks := two_cells hb; obtain ⟨⟨c0, c1, c2, c3, c4, c5, c6, c7, c8, c9⟩, ⟨d0, d1, d2, d3, d4, d5, d6, d7, d8, d9⟩, hb3⟩ := hks; have HB := Aside0.mk hb3; clear hb hb3))
        go_ret
        exact ⟨retB HS.out.symm, HB.out⟩
    · have gkind : (x.kind == y.kind) = false := beq_eq_false_iff_ne.2 hkind
      have HS := Aside0.mk (show sameB x y = false from decide_eq_false (fun e => hkind (congrArg Cel.kind e)))
      clear hkind
      go_enter Try.func43, Try.ntmps43
      go_wp2_with (go_at_call 46; go_must (refine (equal_any A _ c x.body B _ c' y.body _ (Kd.C_below HR.out (below_alloc (below_alloc (Below.refl _ _) _) _)) (Kd.C_below HR2.out (below_alloc (below_alloc (Below.refl _ _) _) _)) HY.out.1 HY.out.2).mono ?_; rintro e w1 ⟨rfl, hb⟩; rw [hbody]; have hks := two_cells hb; obtain ⟨⟨c0, c1, c2, c3, c4, c5, c6, c7, c8, c9⟩, ⟨d0, d1, d2, d3, d4, d5, d6, d7, d8, d9⟩, hb3⟩ := hks; have HB := Aside0.mk hb3; clear hb hb3))
      go_ret
      exact ⟨retB HS.out.symm, HB.out⟩
  · have hbody : decide (x.body = y.body) = false := decide_eq_false hbd
    have HS := Aside0.mk (show sameB x y = false from decide_eq_false (fun e => hbd (congrArg Cel.body e)))
    clear hbd
    go_enter Try.func43, Try.ntmps43
    go_wp2_with (go_at_call 46; go_must (refine (equal_any A _ c x.body B _ c' y.body _ (Kd.C_below HR.out (below_alloc (below_alloc (Below.refl _ _) _) _)) (Kd.C_below HR2.out (below_alloc (below_alloc (Below.refl _ _) _) _)) HY.out.1 HY.out.2).mono ?_; rintro e w1 ⟨rfl, hb⟩; rw [hbody]; have hks := two_cells hb; obtain ⟨⟨c0, c1, c2, c3, c4, c5, c6, c7, c8, c9⟩, ⟨d0, d1, d2, d3, d4, d5, d6, d7, d8, d9⟩, hb3⟩ := hks; have HB := Aside0.mk hb3; clear hb hb3))
    go_ret
    exact ⟨retB HS.out.symm, HB.out⟩
end Go.Proofs.Ytghcnipehgjegaa.Cell
