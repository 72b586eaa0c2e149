/- What Same of the reference of layer 12 answers. Conditions stand in each statement. -/
import Derived.Test.YtghcnipehgjegaaCellOpen
namespace Go.Proofs.Ytghcnipehgjegaa.Cell
open Go.RowKit Go.Proofs.YtghcnipehgjegaaW.PrintWords Go.Proofs.YtghcnipehgjegaaW.PrintLast Go.Proofs.YtghcnipehgjegaaW.PrintMore Go.Proofs.Ytghcnipehgjegaa.Kit Go.Proofs.Ytghcnipehgjegaa.Plain Go.Proofs.Ytghcnipehgjegaa.Wire
set_option linter.unusedVariables false
set_option linter.unusedSimpArgs false
theorem two_blk (w : World) (x y : Cel) (A B : Option Addr) (c c' : Nat) :
    ((w.alloc (.cells (celA x A c) 30)).alloc (.cells (celA y B c') 30)).heap[w.heap.size]? = some (.cells (celA x A c) 30 (0, 0)) ∧ ((w.alloc (.cells (celA x A c) 30)).alloc (.cells (celA y B c') 30)).heap[w.heap.size + 1]? = some (.cells (celA y B c') 30 (0, 0)) := by
  have h1 := blk_new (w.alloc (.cells (celA x A c) 30)) (.cells (celA y B c') 30)
  rw [show (w.alloc (.cells (celA x A c) 30)).heap.size = w.heap.size + 1 by simp] at h1
  exact ⟨blk_alloc (blk_new w _) _, h1⟩
set_option maxHeartbeats 3200000 in
set_option maxRecDepth 100000 in
theorem refsame_any (x y : Cel) (A B : Option Addr) (c c' : Nat) (w : World) (hr : RdN w A x.body.length x.body) (hr' : RdN w B y.body.length y.body) (hy : Byt x.body) (hy' : Byt y.body) :
    Calls Try.prog 24 #[.agg (celA x A c), .agg (celA y B c')] w fun e w' => e = .returned (.bool (sameB x y)) ∧ Below w.heap.size w w' := by
  have HR := Aside0.mk (Kd.C_below hr (below_alloc (below_alloc (Below.refl w.heap.size w) (.cells (celA x A c) 30)) (.cells (celA y B c') 30)))
  have HR2 := Aside0.mk (Kd.C_below hr' (below_alloc (below_alloc (Below.refl w.heap.size w) (.cells (celA x A c) 30)) (.cells (celA y B c') 30)))
  have HB := Aside0.mk (below_alloc (below_alloc (Below.refl w.heap.size w) (.cells (celA x A c) 30)) (.cells (celA y B c') 30))
  have HY := Aside0.mk (And.intro hy hy')
  obtain ⟨h1, h2⟩ := two_blk w x y A B c c'
  obtain ⟨c0, c1, c2, c3, c4, c5, c6, c7, c8, c9⟩ := cel_at (x := x) (A := A) (c := c) h1
  have c10 := blk_cell h1 10
  obtain ⟨d0, d1, d2, d3, d4, d5, d6, d7, d8, d9⟩ := cel_at (x := y) (A := B) (c := c') h2
  have d10 := blk_cell h2 10
  obtain ⟨W1, hW1⟩ : ∃ W1, W1 = (w.alloc (.cells (celA x A c) 30)).alloc (.cells (celA y B c') 30) := ⟨_, rfl⟩
  rw [← hW1] at HR HR2 HB c0 c1 c2 c3 c4 c5 c6 c7 c8 c9 c10 d0 d1 d2 d3 d4 d5 d6 d7 d8 d9 d10
  have HW := Aside0.mk hW1
  clear hr hr' hy hy' h1 h2 hW1
  go_enter Try.func24, Try.ntmps24
  go_upto_region 1 with (fail)
  rw [← HW.out]
  by_cases hkind : x.kind = y.kind
  · have gkind : (x.kind == y.kind) = true := beq_iff_eq.2 hkind
    have Hkind := Aside0.mk hkind
    clear hkind
    by_cases hnum : x.num = y.num
    · have gnum : (x.num == y.num) = true := beq_iff_eq.2 hnum
      have Hnum := Aside0.mk hnum
      clear hnum
      by_cases hmin : x.min = y.min
      · have gmin : (x.min == y.min) = true := beq_iff_eq.2 hmin
        have Hmin := Aside0.mk hmin
        clear hmin
        by_cases hbr : x.br = y.br
        · have gbr : (x.br == y.br) = true := beq_iff_eq.2 hbr
          have Hbr := Aside0.mk hbr
          clear hbr
          by_cases hvol : x.vol = y.vol
          · have gvol : (x.vol == y.vol) = true := beq_iff_eq.2 hvol
            have Hvol := Aside0.mk hvol
            clear hvol
            by_cases hblk : x.blk = y.blk
            · have gblk : (x.blk == y.blk) = true := beq_iff_eq.2 hblk
              have Hblk := Aside0.mk hblk
              clear hblk
              by_cases href : x.ref = y.ref
              · have gref : (x.ref == y.ref) = true := beq_iff_eq.2 href
                have Href := Aside0.mk href
                clear href
                by_cases hfr : x.fr = y.fr
                · have gfr : (x.fr == y.fr) = true := beq_iff_eq.2 hfr
                  have Hfr := Aside0.mk hfr
                  clear hfr
                  by_cases hto : x.to = y.to
                  · have gto : (x.to == y.to) = true := beq_iff_eq.2 hto
                    have Hto := Aside0.mk hto
                    clear hto
                    by_cases hun : x.un = y.un
                    · have gun : (x.un == y.un) = true := beq_iff_eq.2 hun
                      have Hun := Aside0.mk hun
                      clear hun
                      have HS := Aside0.mk (show sameB x y = decide (x.body = y.body) from decide_eq_decide.2 ⟨fun h => congrArg Cel.body h, fun h => cel_ext Hkind.out Hnum.out Hmin.out Hbr.out Hvol.out Hblk.out Href.out Hfr.out Hto.out Hun.out h⟩)
                      have hs1 := Kd.C_string (P := Try.prog) (c := c) Try.underlying28 Try.underlying5 Try.underlying9 HR.out
                      have hs2 := Kd.C_string (P := Try.prog) (c := c') Try.underlying28 Try.underlying5 Try.underlying9 HR2.out
                      go_wp2
                      go_ret
                      refine ⟨retB ?_, HB.out⟩
                      rw [HS.out, str_list, str_list, Bool.eq_iff_iff, beq_iff_eq, decide_eq_true_eq]
                      exact ⟨fun h => map_u8_inj HY.out.1 HY.out.2 h, fun h => by rw [h]⟩
                    · have gun : (x.un == y.un) = false := beq_eq_false_iff_ne.2 hun
                      have HS := Aside0.mk (show sameB x y = false from decide_eq_false (fun e => hun (congrArg Cel.un e)))
                      clear hun
                      go_wp2
                      go_ret
                      exact ⟨retB HS.out.symm, HB.out⟩
                  · have gto : (x.to == y.to) = false := beq_eq_false_iff_ne.2 hto
                    have HS := Aside0.mk (show sameB x y = false from decide_eq_false (fun e => hto (congrArg Cel.to e)))
                    clear hto
                    go_wp2
                    go_ret
                    exact ⟨retB HS.out.symm, HB.out⟩
                · have gfr : (x.fr == y.fr) = false := beq_eq_false_iff_ne.2 hfr
                  have HS := Aside0.mk (show sameB x y = false from decide_eq_false (fun e => hfr (congrArg Cel.fr e)))
                  clear hfr
                  go_wp2
                  go_ret
                  exact ⟨retB HS.out.symm, HB.out⟩
              · have gref : (x.ref == y.ref) = false := beq_eq_false_iff_ne.2 href
                have HS := Aside0.mk (show sameB x y = false from decide_eq_false (fun e => href (congrArg Cel.ref e)))
                clear href
                go_wp2
                go_ret
                exact ⟨retB HS.out.symm, HB.out⟩
            · have gblk : (x.blk == y.blk) = false := beq_eq_false_iff_ne.2 hblk
              have HS := Aside0.mk (show sameB x y = false from decide_eq_false (fun e => hblk (congrArg Cel.blk e)))
              skip
              go_wp2
              go_ret
              exact ⟨retB HS.out.symm, HB.out⟩
          · have gvol : (x.vol == y.vol) = false := beq_eq_false_iff_ne.2 hvol
            have HS := Aside0.mk (show sameB x y = false from decide_eq_false (fun e => hvol (congrArg Cel.vol e)))
            skip
            go_wp2
            go_ret
            exact ⟨retB HS.out.symm, HB.out⟩
        · have gbr : (x.br == y.br) = false := beq_eq_false_iff_ne.2 hbr
          have HS := Aside0.mk (show sameB x y = false from decide_eq_false (fun e => hbr (congrArg Cel.br e)))
          skip
          go_wp2
          go_ret
          exact ⟨retB HS.out.symm, HB.out⟩
      · have gmin : (x.min == y.min) = false := beq_eq_false_iff_ne.2 hmin
        have HS := Aside0.mk (show sameB x y = false from decide_eq_false (fun e => hmin (congrArg Cel.min e)))
        clear hmin
        go_wp2
        go_ret
        exact ⟨retB HS.out.symm, HB.out⟩
    · have gnum : (x.num == y.num) = false := beq_eq_false_iff_ne.2 hnum
      have HS := Aside0.mk (show sameB x y = false from decide_eq_false (fun e => hnum (congrArg Cel.num e)))
      clear hnum
      go_wp2
      go_ret
      exact ⟨retB HS.out.symm, HB.out⟩
  · have gkind : (x.kind == y.kind) = false := beq_eq_false_iff_ne.2 hkind
    have HS := Aside0.mk (show sameB x y = false from decide_eq_false (fun e => hkind (congrArg Cel.kind e)))
    clear hkind
    go_wp2
    go_ret
    exact ⟨retB HS.out.symm, HB.out⟩
end Go.Proofs.Ytghcnipehgjegaa.Cell
