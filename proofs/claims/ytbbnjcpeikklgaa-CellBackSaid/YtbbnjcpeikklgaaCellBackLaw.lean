/- CellBack answers true for every cell, bytes and cut. No conditions. -/
import Derived.Test.YtbbnjcpeikklgaaCellDecode
import Derived.Test.YtbbnjcpeikklgaaCellSameLaw
namespace Go.Proofs.Ytbbnjcpeikklgaa.Cell
open Go.RowKit Go.Proofs.YtbbnjcpeikklgaaW.PrintWords Go.Proofs.YtbbnjcpeikklgaaW.PrintLast Go.Proofs.YtbbnjcpeikklgaaW.PrintMore Go.Proofs.Ytbbnjcpeikklgaa.Kit Go.Proofs.Ytbbnjcpeikklgaa.Plain Go.Proofs.Ytbbnjcpeikklgaa.Wire
set_option linter.unusedVariables false
set_option linter.unusedSimpArgs false
theorem decode_len (A : Option Addr) (n c : Nat) (b : List Int) (w : World) (hn : b.length = n) (hr : RdN w A n b) (hc : n ≤ c) (hy : Byt b) (hl : n ≤ 1000) :
    Calls Try.prog 21 #[.slice A n c] w fun e w' => Decd w w' e (decS b) := by
  subst hn
  exact decode_any A c b w hr hc hy hl
theorem C_none (w : World) (A : Option Addr) : RdN w A cel0.body.length cel0.body := ⟨rfl, by decide, fun h => absurd h (by decide)⟩
theorem wf0 : CelWf cel0 := ⟨⟨by decide, by decide⟩, ⟨by decide, by decide⟩, Byt.nil⟩
set_option maxHeartbeats 6400000 in
set_option maxRecDepth 100000 in
theorem back_law (cs : Array Value) (x : Cel) (B : Option Addr) (bc : Nat) (more : List Int) (cut : Int) (w : World) (hx : CelD.K w x cs.toList) (ht : CelTy x) (hrm : RdB w B more) (hym : Byt more) (hcut : 0 ≤ cut ∧ cut < 256) :
    Calls Try.prog 10 #[.agg cs, .slice B more.length bc, .int .u8 cut] w fun e w' => e = .returned (.bool true) ∧ Below w.heap.size w w' := by
  obtain ⟨A, c, rfl, hc, hr⟩ := cel_open hx
  have hmx := C_max hr
  have hmx2 := C_max hrm
  have HR := Aside0.mk hr
  have HM := Aside0.mk hrm
  have HT := Aside0.mk ht
  have HYM := Aside0.mk hym
  clear hx hr ht hc hrm hym
  by_cases hlen : 100 < x.body.length
  · have g0 : decide (100 < (x.body.length : Int)) = true := decide_eq_true (by omega)
    go_enter Try.func10, Try.ntmps10
    go_wp2_with (go_at_call 12; go_must (refine (awake_any _).mono ?_; rintro e w1 ⟨rfl, hb⟩; have hxb : w1.heap[w.heap.size]? = some (.cells (celA x A c) 27 (0, 0)) := (hb.block _ (by simp)).trans (blk_new w _); have HXB := Aside0.mk hxb; obtain ⟨c0, c1, c2, c3, c4, c5, c6, c7, c8, c9⟩ := cel_at (x := x) (A := A) (c := c) hxb; have c10 : w1.cell? ⟨w.heap.size, 10, none⟩ = some (.slice A x.body.length c) := blk_cell hxb 10; have HB := Aside0.mk ((below_alloc (Below.refl w.heap.size w) (.cells (celA x A c) 27)).trans (hb.mono (by simp))); clear hb hxb))
    go_ret
    exact ⟨rfl, HB.out⟩
  have g0 : decide (100 < (x.body.length : Int)) = false := decide_eq_false (by omega)
  by_cases hlen2 : 100 < more.length
  · have g1 : decide (100 < (more.length : Int)) = true := decide_eq_true (by omega)
    go_enter Try.func10, Try.ntmps10
    go_wp2_with (go_at_call 12; go_must (refine (awake_any _).mono ?_; rintro e w1 ⟨rfl, hb⟩; have hxb : w1.heap[w.heap.size]? = some (.cells (celA x A c) 27 (0, 0)) := (hb.block _ (by simp)).trans (blk_new w _); have HXB := Aside0.mk hxb; obtain ⟨c0, c1, c2, c3, c4, c5, c6, c7, c8, c9⟩ := cel_at (x := x) (A := A) (c := c) hxb; have c10 : w1.cell? ⟨w.heap.size, 10, none⟩ = some (.slice A x.body.length c) := blk_cell hxb 10; have HB := Aside0.mk ((below_alloc (Below.refl w.heap.size w) (.cells (celA x A c) 27)).trans (hb.mono (by simp))); clear hb hxb))
    go_ret
    exact ⟨rfl, HB.out⟩
  have g1 : decide (100 < (more.length : Int)) = false := decide_eq_false (by omega)
  have HM100 := Aside0.mk hlen2
  clear hlen hlen2
  cases hrx : rightB x with
  | false =>
    have HE := Aside0.mk (encR_no hrx)
    go_enter Try.func10, Try.ntmps10
    go_wp2_with (first
      | (go_at_call 12; go_must (refine (awake_any _).mono ?_; rintro e w1 ⟨rfl, hb⟩; have hxb : w1.heap[w.heap.size]? = some (.cells (celA x A c) 27 (0, 0)) := (hb.block _ (by simp)).trans (blk_new w _); have HXB := Aside0.mk hxb; obtain ⟨c0, c1, c2, c3, c4, c5, c6, c7, c8, c9⟩ := cel_at (x := x) (A := A) (c := c) hxb; have c10 : w1.cell? ⟨w.heap.size, 10, none⟩ = some (.slice A x.body.length c) := blk_cell hxb 10; have HB := Aside0.mk ((below_alloc (Below.refl w.heap.size w) (.cells (celA x A c) 27)).trans (hb.mono (by simp))); clear hb hxb))
      | (go_at_call 13; go_must (refine (encode_no x A c _ (Kd.C_below HR.out HB.out) HT.out.byt hrx).mono ?_; rintro e y7 ⟨rfl, hb⟩; replace c0 := pw_cell_below hb c0; replace c1 := pw_cell_below hb c1; replace c2 := pw_cell_below hb c2; replace c3 := pw_cell_below hb c3; replace c4 := pw_cell_below hb c4; replace c5 := pw_cell_below hb c5; replace c6 := pw_cell_below hb c6; replace c7 := pw_cell_below hb c7; replace c8 := pw_cell_below hb c8; replace c9 := pw_cell_below hb c9; replace c10 := pw_cell_below hb c10; replace HB := Aside0.mk (HB.out.trans (hb.mono HB.out.size)); clear hb))
      | (go_at_call 18; go_must (refine (right_any x A c _ (Kd.C_below HR.out HB.out) HT.out.byt).mono ?_; rintro e y8 ⟨rfl, hb⟩; rw [hrx]; replace c0 := pw_cell_below hb c0; replace c1 := pw_cell_below hb c1; replace c2 := pw_cell_below hb c2; replace c3 := pw_cell_below hb c3; replace c4 := pw_cell_below hb c4; replace c5 := pw_cell_below hb c5; replace c6 := pw_cell_below hb c6; replace c7 := pw_cell_below hb c7; replace c8 := pw_cell_below hb c8; replace c9 := pw_cell_below hb c9; replace c10 := pw_cell_below hb c10; replace HB := Aside0.mk (HB.out.trans (hb.mono HB.out.size)); clear hb))
      | (go_at_call 20; go_must (refine (size_any x A c _ (Kd.C_below HR.out HB.out) HT.out.wf).mono ?_; rintro e y9 ⟨rfl, hb⟩; rw [HE.out]; replace HB := Aside0.mk (HB.out.trans (hb.mono HB.out.size)); clear hb)))
    go_ret
    exact ⟨rfl, HB.out⟩
  | true =>
    have HX := Aside0.mk hrx
    have HE := Aside0.mk (encR_yes hrx)
    have HL := Aside0.mk (encS_len x HT.out.wf hrx)
    obtain ⟨n, hn⟩ : ∃ n, n = (encS x).length := ⟨_, rfl⟩
    have hn7 : 7 ≤ n := by rw [hn]; exact HL.out.2.2
    have hn46 : n ≤ 46 := by rw [hn]; exact HL.out.2.1
    have HN := Aside0.mk hn
    clear hn
    go_enter Try.func10, Try.ntmps10
    go_upto_region 10 with (first
      | (go_at_call 12; go_must (refine (awake_any _).mono ?_; rintro e w1 ⟨rfl, hb⟩; have hxb : w1.heap[w.heap.size]? = some (.cells (celA x A c) 27 (0, 0)) := (hb.block _ (by simp)).trans (blk_new w _); have HXB := Aside0.mk hxb; obtain ⟨c0, c1, c2, c3, c4, c5, c6, c7, c8, c9⟩ := cel_at (x := x) (A := A) (c := c) hxb; have c10 : w1.cell? ⟨w.heap.size, 10, none⟩ = some (.slice A x.body.length c) := blk_cell hxb 10; have HB := Aside0.mk ((below_alloc (Below.refl w.heap.size w) (.cells (celA x A c) 27)).trans (hb.mono (by simp))); clear hb hxb))
      | (go_at_call 13; go_must (refine (encode_yes x A c _ (Kd.C_below HR.out HB.out) HT.out.wf HX.out).mono ?_; rintro e y7 ⟨⟨v7, rfl, ho⟩, hb⟩; obtain ⟨A7, k7, rfl, hk7, hr7⟩ := Ow_slice ho; rw [← HN.out] at hk7 ⊢; have HR7 := Aside0.mk hr7; have HK7 := Aside0.mk hk7; replace c0 := pw_cell_below hb c0; replace c1 := pw_cell_below hb c1; replace c2 := pw_cell_below hb c2; replace c3 := pw_cell_below hb c3; replace c4 := pw_cell_below hb c4; replace c5 := pw_cell_below hb c5; replace c6 := pw_cell_below hb c6; replace c7 := pw_cell_below hb c7; replace c8 := pw_cell_below hb c8; replace c9 := pw_cell_below hb c9; replace c10 := pw_cell_below hb c10; replace HXB := Aside0.mk ((hb.block _ (blk_lt HXB.out)).trans HXB.out); replace HB := Aside0.mk (HB.out.trans (hb.mono HB.out.size)); clear hb ho hr7 hk7))
      | (go_at_call 20; go_must (refine (size_any x A c _ (Kd.C_below HR.out HB.out) HT.out.wf).mono ?_; rintro e w9 ⟨rfl, hb⟩; rw [HE.out]; rw [← HN.out]; replace HR7 := Aside0.mk (Kd.C_below HR7.out hb); replace c0 := pw_cell_below hb c0; replace c1 := pw_cell_below hb c1; replace c2 := pw_cell_below hb c2; replace c3 := pw_cell_below hb c3; replace c4 := pw_cell_below hb c4; replace c5 := pw_cell_below hb c5; replace c6 := pw_cell_below hb c6; replace c7 := pw_cell_below hb c7; replace c8 := pw_cell_below hb c8; replace c9 := pw_cell_below hb c9; replace c10 := pw_cell_below hb c10; replace HXB := Aside0.mk ((hb.block _ (blk_lt HXB.out)).trans HXB.out); replace HB := Aside0.mk (HB.out.trans (hb.mono HB.out.size)); clear hb)))
    have HB0 := HB
    clear HB
    have HB := Aside0.mk (Below.refl w9.heap.size w9)
    clear c0 c1 c2 c3 c4 c5 c6 c7 c8 c9 c10
    go_upto_region 11 with (first
      | ((with_reducible refine gate_dst (N := 52) rfl ?_); (try (refine gate_guard (by rfl) ?_; dsimp only)); refine litB w9.heap.size rfl (N := 52) rfl [] ?hr HB.out HB.out.size (by simp) ?_; (case hr => first | (go_simp; done) | (go_simp; rfl)); intro v20 w20 ho hb0 hn hb; clear HB; have HB := Aside0.mk hb0; have HO20 := Aside0.mk ho; obtain ⟨A20, c20, rfl, hcap20, hr20⟩ := Ow_slice ho; have HR20 := Aside0.mk hr20; clear hr20 ho hb hb0 hn)
      | ((with_reducible refine gate_dst (N := 54) rfl ?_); go_must (refine appB w9.heap.size rfl (.tmp 52) (.tmp 53) rfl rfl _ [] (encS x) A7 n k7 rfl rfl HO20.out (by rw [HN.out]; exact Kd.C_below HR7.out HB.out) HB.out HB.out.size (by simp; omega) ?_; intro v21 w21 ho hb hg hat; rw [List.nil_append] at ho; clear HB HO20; have HB := Aside0.mk hb; have HO21 := Aside0.mk ho; clear ho hb hg hat))
      | ((with_reducible refine gate_dst (N := 56) rfl ?_); go_must (refine appB w9.heap.size rfl (.tmp 54) (.tmp 55) rfl rfl v21 (encS x) more B more.length bc rfl rfl HO21.out (Kd.C_below HM.out (HB0.out.trans (HB.out.mono HB0.out.size))) HB.out HB.out.size (by rw [← HN.out]; have := HM100.out; omega) ?_; intro v22 w22 ho hb hg hat; clear HB HO21; have HB := Aside0.mk hb; obtain ⟨A22, k22, rfl⟩ := Kd.R_slice ho; obtain ⟨z, hz⟩ : ∃ z, z = encS x ++ more := ⟨_, rfl⟩; rw [← hz] at ho ⊢; have HZ := Aside0.mk hz; have HO22 := Aside0.mk ho; clear ho hb hg hat hz))
      | (go_at_call 21; go_must (refine (decode_any A22 k22 z w22 (Ow_rd HO22.out).2.2 (Ow_rd HO22.out).2.1 (by rw [HZ.out]; exact Byt.append (Byt.encS HT.out.byt) HYM.out) (by rw [HZ.out, List.length_append, ← HN.out]; have := HM100.out; omega)).mono ?_; rintro e y23 hd; rw [HZ.out, dec_all x HT.out.wf HX.out] at hd; obtain ⟨⟨A1, k1, A2, k2, rfl, ho, hr2, hk2⟩, hb⟩ := hd; simp only at ho hr2 hk2 ⊢; have HR1 := Aside0.mk (Ow_rd ho).2.2; have HR2 := Aside0.mk (Kd.C_below hr2 hb); replace HB := Aside0.mk (HB.out.trans (hb.mono HB.out.size)); clear hb ho hr2 hk2)))
    obtain ⟨w24, hw24⟩ : ∃ w24, w24 = y23.alloc (.cells (celA x A1 k1) 27) := ⟨_, rfl⟩
    rw [← hw24]
    have hb : Below y23.heap.size y23 w24 := by rw [hw24]; exact below_alloc (Below.refl _ _) _
    have HD := Aside0.mk (show w24.heap[y23.heap.size]? = some (.cells (celA x A1 k1) 27 (0, 0)) by rw [hw24]; exact blk_new _ _)
    replace HR1 := Aside0.mk (Kd.C_below HR1.out hb)
    replace HR2 := Aside0.mk (Kd.C_below HR2.out hb)
    replace HB := Aside0.mk (HB.out.trans (hb.mono HB.out.size));
    clear hw24 hb
    obtain ⟨k, hk⟩ := Int.eq_ofNat_of_zero_le (show 0 ≤ cut % (n : Int) from Int.emod_nonneg _ (by omega))
    have hkn : k < n := by have := Int.emod_lt_of_pos cut (show (0 : Int) < n by omega); omega
    have e1 : IntKind.i64.wrap cut = cut := IntWalk.i64_in _ (by omega)
    have e2 : cut.tmod (n : Int) = (k : Int) := by rw [Int.tmod_eq_emod_of_nonneg hcut.1, hk]
    have hck := cutTo A7 n k7 k (by omega) HK7.out .i64
    have hn0 : (n : Int) ≠ 0 := by omega
    have HC := Aside0.mk hcut
    have HKN := Aside0.mk (And.intro hkn hk)
    have HRK := Aside0.mk (RdN_take HR7.out k (by rw [← HN.out]; omega))
    have HKL := Aside0.mk (show ((encS x).take k).length = k by rw [List.length_take, ← HN.out]; omega)
    have HDC := Aside0.mk (dec_cut x HT.out.wf HX.out k (by rw [← HN.out]; exact hkn))
    have hk46 : k ≤ 46 := by omega
    have hkc : k ≤ k7 := Nat.le_trans (Nat.le_of_lt hkn) HK7.out
    clear hcut hkn hk
    go_upto_region 12 with (go_at_call 21; go_must (refine (decode_len A7 k k7 ((encS x).take k) _ HKL.out (Kd.C_below HRK.out HB.out) hkc ((Byt.encS HT.out.byt).take _) (by omega)).mono ?_; rintro e y25 hd; rw [HDC.out] at hd; obtain ⟨⟨A3, k3, A4, k4, rfl, _, _, _⟩, hb⟩ := hd; simp only [cel0, List.length_nil]; replace HR1 := Aside0.mk (Kd.C_below HR1.out hb); replace HR2 := Aside0.mk (Kd.C_below HR2.out hb); replace HD := Aside0.mk ((hb.block _ (blk_lt HD.out)).trans HD.out); replace HB := Aside0.mk (HB.out.trans (hb.mono HB.out.size)); clear hb))
    obtain ⟨w26, hw26⟩ : ∃ w26, w26 = y25.alloc (.cells #[.int .i64 0, .int .u64 0, .int .i64 0, .int .i64 0, .int .i64 0, .int .i64 0, .int .u64 0, .int .i64 0, .int .i64 0, .int .i64 0, .slice A3 0 k3] 27) := ⟨_, rfl⟩
    rw [← hw26]
    have hb : Below y25.heap.size y25 w26 := by rw [hw26]; exact below_alloc (Below.refl _ _) _
    have HZ2 := Aside0.mk (show w26.heap[y25.heap.size]? = some (.cells (celA cel0 A3 k3) 27 (0, 0)) by rw [hw26]; exact blk_new _ _)
    replace HR1 := Aside0.mk (Kd.C_below HR1.out hb)
    replace HR2 := Aside0.mk (Kd.C_below HR2.out hb)
    replace HD := Aside0.mk ((hb.block _ (blk_lt HD.out)).trans HD.out)
    replace HB := Aside0.mk (HB.out.trans (hb.mono HB.out.size));
    clear hw26 hb
    have HBB := Aside0.mk (HB0.out.trans (HB.out.mono HB0.out.size))
    have hxb := (HB.out.block _ (blk_lt HXB.out)).trans HXB.out
    have hdb := HD.out
    have hzb := HZ2.out
    obtain ⟨c0, c1, c2, c3, c4, c5, c6, c7, c8, c9⟩ := cel_at (x := x) (A := A) (c := c) hxb; have c10 : w26.cell? ⟨w.heap.size, 10, none⟩ = some (.slice A x.body.length c) := blk_cell hxb 10
    obtain ⟨d0, d1, d2, d3, d4, d5, d6, d7, d8, d9⟩ := cel_at (x := x) (A := A1) (c := k1) hdb; have d10 : w26.cell? ⟨y23.heap.size, 10, none⟩ = some (.slice A1 x.body.length k1) := blk_cell hdb 10
    have f0 : w26.cell? ⟨y25.heap.size, 0, none⟩ = some (.int .i64 0) := blk_cell hzb 0; have f1 : w26.cell? ⟨y25.heap.size, 1, none⟩ = some (.int .u64 0) := blk_cell hzb 1; have f2 : w26.cell? ⟨y25.heap.size, 2, none⟩ = some (.int .i64 0) := blk_cell hzb 2; have f3 : w26.cell? ⟨y25.heap.size, 3, none⟩ = some (.int .i64 0) := blk_cell hzb 3; have f4 : w26.cell? ⟨y25.heap.size, 4, none⟩ = some (.int .i64 0) := blk_cell hzb 4; have f5 : w26.cell? ⟨y25.heap.size, 5, none⟩ = some (.int .i64 0) := blk_cell hzb 5; have f6 : w26.cell? ⟨y25.heap.size, 6, none⟩ = some (.int .u64 0) := blk_cell hzb 6; have f7 : w26.cell? ⟨y25.heap.size, 7, none⟩ = some (.int .i64 0) := blk_cell hzb 7; have f8 : w26.cell? ⟨y25.heap.size, 8, none⟩ = some (.int .i64 0) := blk_cell hzb 8; have f9 : w26.cell? ⟨y25.heap.size, 9, none⟩ = some (.int .i64 0) := blk_cell hzb 9; have f10 : w26.cell? ⟨y25.heap.size, 10, none⟩ = some (.slice A3 0 k3) := blk_cell hzb 10
    have hs2 := Kd.C_string (P := Try.prog) (c := k2) Try.underlying25 Try.underlying5 Try.underlying9 HR2.out
    have hsm := Kd.C_string (P := Try.prog) (c := bc) Try.underlying25 Try.underlying5 Try.underlying9 (Kd.C_below HM.out HBB.out)
    clear hxb hdb hzb
    go_wp2_with (first
      | (go_at_call 16; (with_reducible refine (same_any x x A A1 c k1 _ (Kd.C_below HR.out HBB.out) HR1.out HT.out.byt HT.out.byt).mono ?_); go_must (rintro e y27 ⟨rfl, hb⟩; rw [sameB_self x]; have hs2 := Kd.C_string (P := Try.prog) (c := k2) Try.underlying25 Try.underlying5 Try.underlying9 (Kd.C_below HR2.out hb); have hsm := Kd.C_string (P := Try.prog) (c := bc) Try.underlying25 Try.underlying5 Try.underlying9 (Kd.C_below HM.out (HBB.out.trans (hb.mono HBB.out.size))); replace f0 := pw_cell_below hb f0; replace f1 := pw_cell_below hb f1; replace f2 := pw_cell_below hb f2; replace f3 := pw_cell_below hb f3; replace f4 := pw_cell_below hb f4; replace f5 := pw_cell_below hb f5; replace f6 := pw_cell_below hb f6; replace f7 := pw_cell_below hb f7; replace f8 := pw_cell_below hb f8; replace f9 := pw_cell_below hb f9; replace f10 := pw_cell_below hb f10; replace HBB := Aside0.mk (HBB.out.trans (hb.mono HBB.out.size)); clear hb))
      | (go_at_call 16; go_must (refine (same_any cel0 cel0 A3 none k3 0 _ (C_none _ _) (RdB_nil _) Byt.nil Byt.nil).mono ?_; rintro e y28 ⟨rfl, hb⟩; rw [sameB_self]; replace HBB := Aside0.mk (HBB.out.trans (hb.mono HBB.out.size)); clear hb)))
    go_ret
    exact ⟨rfl, HBB.out⟩
end Go.Proofs.Ytbbnjcpeikklgaa.Cell
