/- CellApart answers true for every cell and byte. No conditions. -/
import Derived.Test.YtbbnjcpeikklgaaCellDecode
import Derived.Test.YtbbnjcpeikklgaaCellSameLaw
namespace Go.Proofs.Ytbbnjcpeikklgaa.Cell
open Go.RowKit Go.Proofs.YtbbnjcpeikklgaaW.PrintWords Go.Proofs.YtbbnjcpeikklgaaW.PrintLast Go.Proofs.YtbbnjcpeikklgaaW.PrintMore Go.Proofs.Ytbbnjcpeikklgaa.Kit Go.Proofs.Ytbbnjcpeikklgaa.Plain Go.Proofs.Ytbbnjcpeikklgaa.Wire
set_option linter.unusedVariables false
set_option linter.unusedSimpArgs false
theorem dec_enc0 (x : Cel) (hw : CelWf x) (h : rightB x = true) : decS (encS x) = (x, [], 0) := by
  have := dec_all x hw h []
  rwa [List.append_nil] at this
set_option maxHeartbeats 6400000 in
set_option maxRecDepth 100000 in
theorem apart_law (cs : Array Value) (x : Cel) (by_ : Int) (w : World) (hx : CelD.K w x cs.toList) (ht : CelTy x) :
    Calls Try.prog 9 #[.agg cs, .int .u8 by_] w fun e w' => e = .returned (.bool true) ∧ Below w.heap.size w w' := by
  obtain ⟨A, c, rfl, hc, hr⟩ := cel_open hx
  have hmx := C_max hr
  have HR := Aside0.mk hr
  have HT := Aside0.mk ht
  clear hx hr ht hc
  by_cases hlen : 100 < x.body.length
  · have g0 : decide (100 < (x.body.length : Int)) = true := decide_eq_true (by omega)
    go_enter Try.func9, Try.ntmps9
    go_wp2_with (go_at_call 12; go_must (refine (awake_any _).mono ?_; rintro e w1 ⟨rfl, hb⟩; have hxb : w1.heap[w.heap.size]? = some (.cells (celA x A c) 27 (0, 0)) := (hb.block _ (by simp)).trans (blk_new w _); have HXB := Aside0.mk hxb; obtain ⟨c0, c1, c2, c3, c4, c5, c6, c7, c8, c9⟩ := cel_at (x := x) (A := A) (c := c) hxb; have c10 : w1.cell? ⟨w.heap.size, 10, none⟩ = some (.slice A x.body.length c) := blk_cell hxb 10; have HB := Aside0.mk ((below_alloc (Below.refl w.heap.size w) (.cells (celA x A c) 27)).trans (hb.mono (by simp))); clear hb hxb))
    go_ret
    exact ⟨rfl, HB.out⟩
  have g0 : decide (100 < (x.body.length : Int)) = false := decide_eq_false (by omega)
  cases hrx : rightB x with
  | false =>
    clear hlen
    go_enter Try.func9, Try.ntmps9
    go_wp2_with (first
      | (go_at_call 12; go_must (refine (awake_any _).mono ?_; rintro e w1 ⟨rfl, hb⟩; have hxb : w1.heap[w.heap.size]? = some (.cells (celA x A c) 27 (0, 0)) := (hb.block _ (by simp)).trans (blk_new w _); have HXB := Aside0.mk hxb; obtain ⟨c0, c1, c2, c3, c4, c5, c6, c7, c8, c9⟩ := cel_at (x := x) (A := A) (c := c) hxb; have c10 : w1.cell? ⟨w.heap.size, 10, none⟩ = some (.slice A x.body.length c) := blk_cell hxb 10; have HB := Aside0.mk ((below_alloc (Below.refl w.heap.size w) (.cells (celA x A c) 27)).trans (hb.mono (by simp))); clear hb hxb))
      | (go_at_call 13; go_must (refine (encode_no x A c _ (Kd.C_below HR.out HB.out) HT.out.byt hrx).mono ?_; rintro e y7 ⟨rfl, hb⟩; replace c0 := pw_cell_below hb c0; replace c1 := pw_cell_below hb c1; replace c2 := pw_cell_below hb c2; replace c3 := pw_cell_below hb c3; replace c4 := pw_cell_below hb c4; replace c5 := pw_cell_below hb c5; replace c6 := pw_cell_below hb c6; replace c7 := pw_cell_below hb c7; replace c8 := pw_cell_below hb c8; replace c9 := pw_cell_below hb c9; replace c10 := pw_cell_below hb c10; replace HB := Aside0.mk (HB.out.trans (hb.mono HB.out.size)); clear hb)))
    go_ret
    exact ⟨rfl, HB.out⟩
  | true =>
    have HX := Aside0.mk hrx
    have HL := Aside0.mk (encS_len x HT.out.wf hrx)
    obtain ⟨n, hn⟩ : ∃ n, n = (encS x).length := ⟨_, rfl⟩
    have hn46 : n ≤ 46 := by rw [hn]; exact HL.out.2.1
    have HN := Aside0.mk hn
    obtain ⟨L, hL⟩ : ∃ L, L = x.body.length := ⟨_, rfl⟩
    have hL100 : L ≤ 100 := by omega
    have HLL := Aside0.mk hL
    have HREQ := Aside0.mk (dec_enc0 x HT.out.wf hrx)
    clear hn hL hlen
    go_enter Try.func9, Try.ntmps9
    go_upto_region 12 with (first
      | (go_at_call 12; go_must (refine (awake_any _).mono ?_; rintro e w1 ⟨rfl, hb⟩; have hxb : w1.heap[w.heap.size]? = some (.cells (celA x A c) 27 (0, 0)) := (hb.block _ (by simp)).trans (blk_new w _); have HXB := Aside0.mk hxb; obtain ⟨c0, c1, c2, c3, c4, c5, c6, c7, c8, c9⟩ := cel_at (x := x) (A := A) (c := c) hxb; have c10 : w1.cell? ⟨w.heap.size, 10, none⟩ = some (.slice A x.body.length c) := blk_cell hxb 10; have HB := Aside0.mk ((below_alloc (Below.refl w.heap.size w) (.cells (celA x A c) 27)).trans (hb.mono (by simp))); clear hb hxb))
      | (go_at_call 13; go_must (refine (encode_yes x A c _ (Kd.C_below HR.out HB.out) HT.out.wf HX.out).mono ?_; rintro e y7 ⟨⟨v7, rfl, ho⟩, hb⟩; replace ho := Kd.R_lower ho HB.out.size; obtain ⟨A7, k7, rfl, hk7, hr7⟩ := Ow_slice ho; rw [← HN.out] at hk7 ho ⊢; have hs7 := Kd.C_string (P := Try.prog) (c := k7) Try.underlying25 Try.underlying5 Try.underlying9 hr7; rw [← HN.out] at hs7; have HO7 := Aside0.mk ho; have HK7 := Aside0.mk hk7; have HR7 := Aside0.mk hr7; replace c0 := pw_cell_below hb c0; replace c1 := pw_cell_below hb c1; replace c2 := pw_cell_below hb c2; replace c3 := pw_cell_below hb c3; replace c4 := pw_cell_below hb c4; replace c5 := pw_cell_below hb c5; replace c6 := pw_cell_below hb c6; replace c7 := pw_cell_below hb c7; replace c8 := pw_cell_below hb c8; replace c9 := pw_cell_below hb c9; replace c10 := pw_cell_below hb c10; replace HXB := Aside0.mk ((hb.block _ (blk_lt HXB.out)).trans HXB.out); replace HB := Aside0.mk (HB.out.trans (hb.mono HB.out.size)); clear hb ho hk7 hr7))
      | (go_at_call 21; go_must (rw [HN.out]; refine (decode_any A7 k7 (encS x) y7 HR7.out (by rw [← HN.out]; exact HK7.out) (Byt.encS HT.out.byt) (by rw [← HN.out]; omega)).mono ?_; rintro e y23 hd; rw [HREQ.out] at hd; obtain ⟨⟨A1, k1, A2, k2, rfl, ho, hr2, hk2⟩, hb⟩ := hd; simp only at ho ⊢; rw [← HLL.out] at ho; rw [← HN.out]; have HO1 := Aside0.mk ho; have HB7 := Aside0.mk hb; clear hb ho hr2 hk2 hs7)))
    obtain ⟨w24, hw24⟩ : ∃ w24, w24 = y23.alloc (.cells #[.int .i64 x.kind, .int .u64 x.num, .int .i64 x.min, .int .i64 x.br, .int .i64 x.vol, .int .i64 x.blk, .int .u64 x.ref, .int .i64 x.fr, .int .i64 x.to, .int .i64 x.un, .slice A1 x.body.length k1] 27) := ⟨_, rfl⟩
    rw [← hw24]
    rw [← HLL.out] at hw24
    have hb : Below y23.heap.size y23 w24 := by rw [hw24]; exact below_alloc (Below.refl _ _) _
    have HD := Aside0.mk (show w24.heap[y23.heap.size]? = some (.cells #[.int .i64 x.kind, .int .u64 x.num, .int .i64 x.min, .int .i64 x.br, .int .i64 x.vol, .int .i64 x.blk, .int .u64 x.ref, .int .i64 x.fr, .int .i64 x.to, .int .i64 x.un, .slice A1 L k1] 27 (0, 0)) by rw [hw24]; exact blk_new _ _)
    replace HO1 := Aside0.mk (Kd.R_below HO1.out hb)
    replace HB7 := Aside0.mk (HB7.out.trans (hb.mono HB7.out.size))
    have hxl : x.body.length = L := HLL.out.symm
    have HXL := Aside0.mk hxl
    clear hw24 hb c0 c1 c2 c3 c4 c5 c6 c7 c8 c9 c10 hxl
    go_wp2
    go_loopg [11] L (fun gk v w' => ∃ (i : Nat) (l' : List Int), v = .int .i64 (i : Int) ∧ i + gk = L ∧ l'.length = L ∧ Aside0 (OwB w' y7.heap.size (.slice A1 L k1) l') ∧ Aside0 (w'.heap[y23.heap.size]? = some (.cells #[.int .i64 x.kind, .int .u64 x.num, .int .i64 x.min, .int .i64 x.br, .int .i64 x.vol, .int .i64 x.blk, .int .u64 x.ref, .int .i64 x.fr, .int .i64 x.to, .int .i64 x.un, .slice A1 L k1] 27 (0, 0))) ∧ Aside0 (Below y7.heap.size y7 w'))
    case atStart => exact ⟨0, x.body, rfl, by omega, HXL.out, HO1, HD, HB7⟩
    case round =>
      clear HO1 HD HB7
      obtain ⟨i, l', rfl, hi, hl', HO1, HD, HB7⟩ := hrel
      have d10 : wr.cell? ⟨y23.heap.size, 10, none⟩ = some (.slice A1 L k1) := blk_cell HD.out 10
      by_cases hlt : i < L
      · obtain ⟨g, c', eo, gb, gl, cl, HG⟩ := Kd.R_form HO1.out (by omega)
        injection eo with ea en ec
        subst ea ec
        clear en
        obtain ⟨hcg, hfg⟩ := R_at HO1.out i hlt
        have HP := Aside0.mk (R_put' HO1.out i by_)
        have HNE := Aside0.mk (Kd.R_ne HO1.out HD.out (by decide))
        have hne : y23.heap.size ≠ g := fun h => HNE.out (by rw [h]; simp [Value.ownBlock])
        have HNG := Aside0.mk (And.intro hne gb)
        have hi0 : 0 ≤ (i : Int) := by omega
        have hi1 : (i : Int) < (L : Int) := by omega
        clear hne gb gl cl HG
        go_wp2
        go_roundg (gk - 1)
        case measure => omega
        case rel => exact ⟨i + 1, l'.set i by_, by go_num, by omega, by rw [List.length_set]; exact hl', HP, ⟨blk_far HD.out HNG.out.1 _⟩, ⟨HB7.out.setCell (p := ⟨g, i, none⟩) HNG.out.2 _⟩⟩
      · have hs7 := Kd.C_string (P := Try.prog) (c := k7) Try.underlying25 Try.underlying5 Try.underlying9 (Kd.C_below HR7.out HB7.out)
        rw [← HN.out] at hs7
        have HWR := Aside0.mk (show Below w.heap.size w wr from HB.out.trans (HB7.out.mono HB.out.size))
        go_upto_region 18 with (fail)
        go_upto_region 19 with (go_at_call 21; go_must (rw [HN.out]; refine (decode_any A7 k7 (encS x) wr (Kd.C_below HR7.out HB7.out) (by rw [← HN.out]; exact HK7.out) (Byt.encS HT.out.byt) (by rw [← HN.out]; omega)).mono ?_; rintro e y25 hd; rw [HREQ.out] at hd; obtain ⟨⟨A3, k3, A4, k4, rfl, ho, _, _⟩, hb⟩ := hd; simp only at ho ⊢; rw [← HN.out]; have HO3 := Aside0.mk ho; have HB8 := Aside0.mk hb; clear hb ho hs7))
        obtain ⟨w26, hw26⟩ : ∃ w26, w26 = y25.alloc (.cells #[.int .i64 x.kind, .int .u64 x.num, .int .i64 x.min, .int .i64 x.br, .int .i64 x.vol, .int .i64 x.blk, .int .u64 x.ref, .int .i64 x.fr, .int .i64 x.to, .int .i64 x.un, .slice A3 x.body.length k3] 27) := ⟨_, rfl⟩
        rw [← hw26]
        have hb : Below y25.heap.size y25 w26 := by rw [hw26]; exact below_alloc (Below.refl _ _) _
        have HD3 := Aside0.mk (show w26.heap[y25.heap.size]? = some (.cells (celA x A3 k3) 27 (0, 0)) by rw [hw26]; exact blk_new _ _)
        replace HO3 := Aside0.mk (Kd.R_below HO3.out hb)
        replace HB8 := Aside0.mk (HB8.out.trans (hb.mono HB8.out.size))
        have HO7b := Aside0.mk (Kd.R_below (Kd.R_below HO7.out HB7.out) HB8.out)
        have HX7 := Aside0.mk (((HB8.out.block _ (blk_lt ((HB7.out.block _ (blk_lt HXB.out)).trans HXB.out)))).trans ((HB7.out.block _ (blk_lt HXB.out)).trans HXB.out))
        have HB9 := Aside0.mk (HWR.out.trans (HB8.out.mono HWR.out.size))
        have HLO := Aside0.mk (show ∀ g, (Value.slice A7 n k7).ownBlock = some g → g < wr.heap.size from fun g hg => Nat.lt_of_lt_of_le (Kd.R_lt HO7.out g hg) HB7.out.size)
        clear hw26 hb d10
        go_wp2
        go_loopg [15] n (fun gk v w' => ∃ (i : Nat) (l' : List Int), v = .int .i64 (i : Int) ∧ i + gk = n ∧ l'.length = n ∧ Aside0 (OwB w' w.heap.size (.slice A7 n k7) l') ∧ Aside0 (w'.heap[y25.heap.size]? = some (.cells (celA x A3 k3) 27 (0, 0))) ∧ Aside0 (w'.heap[w.heap.size]? = some (.cells (celA x A c) 27 (0, 0))) ∧ Aside0 (OwB w' wr.heap.size (.slice A3 x.body.length k3) x.body) ∧ Aside0 (Below w.heap.size w w'))
        case atStart => exact ⟨0, encS x, rfl, by omega, HN.out.symm, HO7b, HD3, HX7, HO3, HB9⟩
        case round =>
          clear HO7b HD3 HX7 HO3 HB9
          obtain ⟨i, l', rfl, hi, hl', HO7b, HD3, HX7, HO3, HB9⟩ := hrel
          by_cases hlt : i < n
          · obtain ⟨g, c', eo, gb, gl, cl, HG⟩ := Kd.R_form HO7b.out (by omega)
            injection eo with ea en ec
            subst ea ec
            clear en
            obtain ⟨hcg, hfg⟩ := R_at HO7b.out i hlt
            have HP := Aside0.mk (R_put' HO7b.out i by_)
            have HNE := Aside0.mk (Kd.R_ne HO7b.out HD3.out (by decide))
            have HNX := Aside0.mk (Kd.R_ne HO7b.out HX7.out (by decide))
            have hne : y25.heap.size ≠ g := fun h => HNE.out (by rw [h]; simp [Value.ownBlock])
            have hnx : w.heap.size ≠ g := fun h => HNX.out (by rw [h]; simp [Value.ownBlock])
            have hg3 := HLO.out g (by simp [Value.ownBlock])
            have HN3 := Aside0.mk (show some g ≠ (Value.slice A3 x.body.length k3).ownBlock from fun h => absurd (Kd.R_base HO3.out g h.symm) (by omega))
            have HNG := Aside0.mk (And.intro hne (And.intro hnx gb))
            have hi0 : 0 ≤ (i : Int) := by omega
            have hi1 : (i : Int) < (n : Int) := by omega
            clear hne hnx gb gl cl HG hg3
            go_wp2
            go_roundg (gk - 1)
            case measure => omega
            case rel => exact ⟨i + 1, l'.set i by_, by go_num, by omega, by rw [List.length_set]; exact hl', HP, ⟨blk_far HD3.out HNG.out.1 _⟩, ⟨blk_far HX7.out HNG.out.2.1 _⟩, ⟨R_set_far' HO3.out HN3.out⟩, ⟨HB9.out.setCell (p := ⟨g, i, none⟩) HNG.out.2.2 _⟩⟩
          · have hxb := HX7.out
            have hdb := HD3.out
            obtain ⟨c0, c1, c2, c3, c4, c5, c6, c7, c8, c9⟩ := cel_at (x := x) (A := A) (c := c) hxb; have c10 : wr.cell? ⟨w.heap.size, 10, none⟩ = some (.slice A x.body.length c) := blk_cell hxb 10
            obtain ⟨d0, d1, d2, d3, d4, d5, d6, d7, d8, d9⟩ := cel_at (x := x) (A := A3) (c := k3) hdb; have d10 : wr.cell? ⟨y25.heap.size, 10, none⟩ = some (.slice A3 x.body.length k3) := blk_cell hdb 10
            clear hxb hdb
            go_wp2_with (go_at_call 16; go_must (refine (same_any x x A3 A k3 c _ (Ow_rd HO3.out).2.2 (Kd.C_below HR.out HB9.out) HT.out.byt HT.out.byt).mono ?_; rintro e y27 ⟨rfl, hb⟩; rw [sameB_self x]; replace HB9 := Aside0.mk (HB9.out.trans (hb.mono HB9.out.size)); clear hb))
            go_ret
            exact ⟨rfl, HB9.out⟩
end Go.Proofs.Ytbbnjcpeikklgaa.Cell
