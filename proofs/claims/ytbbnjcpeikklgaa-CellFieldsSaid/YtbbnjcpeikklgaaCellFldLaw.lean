/- CellFields answers true for every cell and numbers. No conditions. -/
import Derived.Test.YtbbnjcpeikklgaaCellOpen
namespace Go.Proofs.Ytbbnjcpeikklgaa.Plain
theorem fld_wf_num {x : Cel} (hw : CelWf x) {n : Int} (h0 : 0 ≤ n) (h1 : n < 2 ^ 64) : CelWf { x with num := n } := ⟨⟨h0, h1⟩, hw.2.1, hw.2.2⟩
theorem fld_min {x : Cel} (hw : CelWf x) (h : rightB x = true) (m : Int) : rightB { x with min := m } = decide (0 ≤ m ∧ m ≤ 1073741824) := by
  obtain ⟨kind, num, min, br, vol, blk, ref, fr, t_, un, body⟩ := x
  have e1 := right_iff ⟨kind, num, min, br, vol, blk, ref, fr, t_, un, body⟩ hw
  have e2 := right_iff ⟨kind, num, m, br, vol, blk, ref, fr, t_, un, body⟩ hw
  simp only at e1 e2 h ⊢
  obtain ⟨h1, h2⟩ := e1.1 h
  rw [Bool.eq_iff_iff, e2, decide_eq_true_eq]
  exact ⟨fun h => h.1.2.2, fun h => ⟨⟨h1.1, h1.2.1, h.1, h.2⟩, h2⟩⟩
theorem fld_num_bad {x : Cel} (hw : CelWf x) {n : Int} (h0 : 0 ≤ n) (h1 : n < 2 ^ 64) (hn : n < 1 ∨ 65535 < n) : rightB { x with num := n } = false := by
  obtain ⟨kind, num, min, br, vol, blk, ref, fr, t_, un, body⟩ := x
  have e2 := right_iff ⟨kind, n, min, br, vol, blk, ref, fr, t_, un, body⟩ (fld_wf_num hw h0 h1)
  simp only at e2 ⊢
  cases hr : rightB ⟨kind, n, min, br, vol, blk, ref, fr, t_, un, body⟩ with
  | false => rfl
  | true =>
    have h' := (e2.1 hr).1
    clear e2 hw
    omega
theorem fld_num_ok {x : Cel} (hw : CelWf x) (h : rightB x = true) {n : Int} (h0 : 0 ≤ n) (h1 : n < 2 ^ 64) (h2 : x.num ≤ n) (h3 : n ≤ 65535) : rightB { x with num := n } = true := by
  obtain ⟨kind, num, min, br, vol, blk, ref, fr, t_, un, body⟩ := x
  have e1 := right_iff ⟨kind, num, min, br, vol, blk, ref, fr, t_, un, body⟩ hw
  have e2 := right_iff ⟨kind, n, min, br, vol, blk, ref, fr, t_, un, body⟩ (fld_wf_num hw h0 h1)
  simp only at e1 e2 h h2 ⊢
  obtain ⟨ha, hb⟩ := e1.1 h
  refine e2.2 ⟨⟨by omega, h3, ha.2.2⟩, ?_⟩
  have hlt : ref < num → ref < n := fun h => by omega
  rcases hb with ⟨hk, h⟩ | ⟨hk, h⟩ | ⟨hk, h⟩ | ⟨hk, h⟩ | h
  · exact .inl ⟨hk, h⟩
  · exact .inr (.inl ⟨hk, h.1, ⟨h.2.1.1, hlt h.2.1.2⟩, h.2.2⟩)
  · exact .inr (.inr (.inl ⟨hk, h.1, ⟨h.2.1.1, hlt h.2.1.2⟩, h.2.2⟩))
  · exact .inr (.inr (.inr (.inl ⟨hk, h.1, ⟨h.2.1.1, hlt h.2.1.2⟩, h.2.2⟩)))
  · exact .inr (.inr (.inr (.inr h)))
theorem fld_blk_write {x : Cel} (hw : CelWf x) (h : rightB x = true) (hm : x.kind = 1 ∨ x.kind = 2 ∨ x.kind = 3) (b : Int) : rightB { x with blk := b } = decide (0 ≤ b ∧ b ≤ 255) := by
  obtain ⟨kind, num, min, br, vol, blk, ref, fr, t_, un, body⟩ := x
  have e1 := right_iff ⟨kind, num, min, br, vol, blk, ref, fr, t_, un, body⟩ hw
  have e2 := right_iff ⟨kind, num, min, br, vol, b, ref, fr, t_, un, body⟩ hw
  simp only at e1 e2 h hm ⊢
  obtain ⟨ha, hb⟩ := e1.1 h
  rw [Bool.eq_iff_iff, e2, decide_eq_true_eq]
  clear e1 e2
  constructor
  · rintro ⟨_, h'⟩
    clear hb ha h hw
    rcases h' with ⟨hk, h⟩ | ⟨hk, h⟩ | ⟨hk, h⟩ | ⟨hk, h⟩ | ⟨hk, h⟩ | ⟨hk, h⟩ | ⟨hk, h⟩ | ⟨hk, h⟩
    · exact ⟨h.1.2.2.2.2.1, h.1.2.2.2.2.2⟩
    · exact ⟨h.1.2.2.2.2.1, h.1.2.2.2.2.2⟩
    · exact ⟨h.1.2.2.2.2.1, h.1.2.2.2.2.2⟩
    all_goals (exfalso; rcases hm with h' | h' | h' <;> (rw [hk] at h'; exact absurd h' (by decide)))
  · rintro ⟨b0, b1⟩
    refine ⟨ha, ?_⟩
    rcases hb with ⟨hk, h⟩ | ⟨hk, h⟩ | ⟨hk, h⟩ | ⟨hk, h⟩ | ⟨hk, h⟩ | ⟨hk, h⟩ | ⟨hk, h⟩ | ⟨hk, h⟩
    · exact .inl ⟨hk, ⟨h.1.1, h.1.2.1, h.1.2.2.1, h.1.2.2.2.1, b0, b1⟩, h.2⟩
    · exact .inr (.inl ⟨hk, ⟨h.1.1, h.1.2.1, h.1.2.2.1, h.1.2.2.2.1, b0, b1⟩, h.2⟩)
    · exact .inr (.inr (.inl ⟨hk, ⟨h.1.1, h.1.2.1, h.1.2.2.1, h.1.2.2.2.1, b0, b1⟩, h.2⟩))
    all_goals (exfalso; rcases hm with h' | h' | h' <;> (rw [hk] at h'; exact absurd h' (by decide)))
theorem fld_blk_else {x : Cel} (hw : CelWf x) (h : rightB x = true) (hm : ¬ (x.kind = 1 ∨ x.kind = 2 ∨ x.kind = 3)) (b : Int) : rightB { x with blk := b } = decide (b = 0) := by
  obtain ⟨kind, num, min, br, vol, blk, ref, fr, t_, un, body⟩ := x
  have e1 := right_iff ⟨kind, num, min, br, vol, blk, ref, fr, t_, un, body⟩ hw
  have e2 := right_iff ⟨kind, num, min, br, vol, b, ref, fr, t_, un, body⟩ hw
  simp only at e1 e2 h hm ⊢
  obtain ⟨ha, hb⟩ := e1.1 h
  rw [Bool.eq_iff_iff, e2, decide_eq_true_eq]
  clear e1 e2
  constructor
  · rintro ⟨_, h'⟩
    clear hb ha h hw
    rcases h' with ⟨hk, h⟩ | ⟨hk, h⟩ | ⟨hk, h⟩ | ⟨hk, h⟩ | ⟨hk, h⟩ | ⟨hk, h⟩ | ⟨hk, h⟩ | ⟨hk, h⟩
    · exact absurd (.inl hk) hm
    · exact absurd (.inr (.inl hk)) hm
    · exact absurd (.inr (.inr hk)) hm
    · exact h.1.2.2.2.2.2
    · exact h.1.2.2.2
    · exact h.1.2.2
    · exact h.1.2.2
    · exact h.1.2.2
  · rintro rfl
    refine ⟨ha, ?_⟩
    rcases hb with ⟨hk, h⟩ | ⟨hk, h⟩ | ⟨hk, h⟩ | ⟨hk, h⟩ | ⟨hk, h⟩ | ⟨hk, h⟩ | ⟨hk, h⟩ | ⟨hk, h⟩
    · exact absurd (.inl hk) hm
    · exact absurd (.inr (.inl hk)) hm
    · exact absurd (.inr (.inr hk)) hm
    · exact .inr (.inr (.inr (.inl ⟨hk, ⟨h.1.1, h.1.2.1, h.1.2.2.1, h.1.2.2.2.1, h.1.2.2.2.2.1, rfl⟩, h.2⟩)))
    · exact .inr (.inr (.inr (.inr (.inl ⟨hk, ⟨h.1.1, h.1.2.1, h.1.2.2.1, rfl⟩, h.2⟩))))
    · exact .inr (.inr (.inr (.inr (.inr (.inl ⟨hk, ⟨h.1.1, h.1.2.1, rfl⟩, h.2⟩)))))
    · exact .inr (.inr (.inr (.inr (.inr (.inr (.inl ⟨hk, ⟨h.1.1, h.1.2.1, rfl⟩, h.2⟩))))))
    · exact .inr (.inr (.inr (.inr (.inr (.inr (.inr ⟨hk, ⟨h.1.1, h.1.2.1, rfl⟩, h.2⟩))))))
end Go.Proofs.Ytbbnjcpeikklgaa.Plain
namespace Go.Proofs.Ytbbnjcpeikklgaa.Cell
open Go.RowKit Go.Proofs.YtbbnjcpeikklgaaW.PrintWords Go.Proofs.YtbbnjcpeikklgaaW.PrintLast Go.Proofs.YtbbnjcpeikklgaaW.PrintMore Go.Proofs.Ytbbnjcpeikklgaa.Kit Go.Proofs.Ytbbnjcpeikklgaa.Plain Go.Proofs.Ytbbnjcpeikklgaa.Wire
set_option linter.unusedVariables false
set_option linter.unusedSimpArgs false
/-- A cell stored over another one. -/
abbrev putCel (W : World) (g : Nat) (x : Cel) (A : Option Addr) (c : Nat) : World := (((((((((((W.setCell ⟨g, 0, none⟩ (.int .i64 x.kind)).setCell ⟨g, 1, none⟩ (.int .u64 x.num)).setCell ⟨g, 2, none⟩ (.int .i64 x.min)).setCell ⟨g, 3, none⟩ (.int .i64 x.br)).setCell ⟨g, 4, none⟩ (.int .i64 x.vol)).setCell ⟨g, 5, none⟩ (.int .i64 x.blk)).setCell ⟨g, 6, none⟩ (.int .u64 x.ref)).setCell ⟨g, 7, none⟩ (.int .i64 x.fr)).setCell ⟨g, 8, none⟩ (.int .i64 x.to)).setCell ⟨g, 9, none⟩ (.int .i64 x.un)).setCell ⟨g, 10, none⟩ (.slice A x.body.length c))
theorem putCel_at {W : World} {g : Nat} {t : TypeId} {x y : Cel} {A A' : Option Addr} {c c' : Nat} (h : W.heap[g]? = some (.cells (celA y A' c') t (0, 0))) : (putCel W g x A c).heap[g]? = some (.cells (celA x A c) t (0, 0)) := by
  have h1 := (blk_set (blk_set (blk_set (blk_set (blk_set (blk_set (blk_set (blk_set (blk_set (blk_set (blk_set h 0 (.int .i64 x.kind)) 1 (.int .u64 x.num)) 2 (.int .i64 x.min)) 3 (.int .i64 x.br)) 4 (.int .i64 x.vol)) 5 (.int .i64 x.blk)) 6 (.int .u64 x.ref)) 7 (.int .i64 x.fr)) 8 (.int .i64 x.to)) 9 (.int .i64 x.un)) 10 (.slice A x.body.length c))
  simp only [List.setIfInBounds_toArray, List.set_cons_zero, List.set_cons_succ] at h1
  exact h1
theorem putCel_far {W : World} {g k : Nat} {x : Cel} {A : Option Addr} {c : Nat} (hk : k ≠ g) : (putCel W g x A c).heap[k]? = W.heap[k]? :=
  ((Below.heap_setCell _ ⟨g, 10, none⟩ (.slice A x.body.length c) k hk).trans ((Below.heap_setCell _ ⟨g, 9, none⟩ (.int .i64 x.un) k hk).trans ((Below.heap_setCell _ ⟨g, 8, none⟩ (.int .i64 x.to) k hk).trans ((Below.heap_setCell _ ⟨g, 7, none⟩ (.int .i64 x.fr) k hk).trans ((Below.heap_setCell _ ⟨g, 6, none⟩ (.int .u64 x.ref) k hk).trans ((Below.heap_setCell _ ⟨g, 5, none⟩ (.int .i64 x.blk) k hk).trans ((Below.heap_setCell _ ⟨g, 4, none⟩ (.int .i64 x.vol) k hk).trans ((Below.heap_setCell _ ⟨g, 3, none⟩ (.int .i64 x.br) k hk).trans ((Below.heap_setCell _ ⟨g, 2, none⟩ (.int .i64 x.min) k hk).trans ((Below.heap_setCell _ ⟨g, 1, none⟩ (.int .u64 x.num) k hk).trans ((Below.heap_setCell _ ⟨g, 0, none⟩ (.int .i64 x.kind) k hk).trans rfl)))))))))))
theorem putCel_below {w W : World} {B g : Nat} {x : Cel} {A : Option Addr} {c : Nat} (HB : Below B w W) (hg : B ≤ g) : Below B w (putCel W g x A c) := by
  exact (((((((((((HB.setCell hg (.int .i64 x.kind)).setCell hg (.int .u64 x.num)).setCell hg (.int .i64 x.min)).setCell hg (.int .i64 x.br)).setCell hg (.int .i64 x.vol)).setCell hg (.int .i64 x.blk)).setCell hg (.int .u64 x.ref)).setCell hg (.int .i64 x.fr)).setCell hg (.int .i64 x.to)).setCell hg (.int .i64 x.un)).setCell hg (.slice A x.body.length c))
set_option maxHeartbeats 3200000 in
set_option maxRecDepth 100000 in
theorem fields_law (cs : Array Value) (x : Cel) (n mn bk : Int) (w : World) (hx : CelD.K w x cs.toList) (ht : CelTy x) (hn0 : 0 ≤ n) (hn1 : n < 2 ^ 64) :
    Calls Try.prog 5 #[.agg cs, .int .u64 n, .int .i64 mn, .int .i64 bk] w fun e w' => e = .returned (.bool true) ∧ Below w.heap.size w w' := by
  obtain ⟨A, c, rfl, hc, hr⟩ := cel_open hx
  have HR := Aside0.mk hr
  have HT := Aside0.mk ht
  have HC := Aside0.mk (And.intro hn0 hn1)
  clear hx hr ht hc hn0 hn1
  by_cases hlen : 100 < x.body.length
  · have g0 : decide (100 < (x.body.length : Int)) = true := decide_eq_true (by omega)
    go_enter Try.func5, Try.ntmps5
    go_wp2_with (go_at_call 12; go_must (refine (awake_any _).mono ?_; rintro e w1 ⟨rfl, hb⟩; have hxb : w1.heap[w.heap.size]? = some (.cells (celA x A c) 27 (0, 0)) := (hb.block _ (by simp)).trans (blk_new w _); have HXB := Aside0.mk hxb; obtain ⟨c0, c1, c2, c3, c4, c5, c6, c7, c8, c9⟩ := cel_at (x := x) (A := A) (c := c) hxb; have c10 : w1.cell? ⟨w.heap.size, 10, none⟩ = some (.slice A x.body.length c) := blk_cell hxb 10; have HB := Aside0.mk ((below_alloc (Below.refl w.heap.size w) (.cells (celA x A c) 27)).trans (hb.mono (by simp))); clear hb hxb))
    go_ret
    exact ⟨rfl, HB.out⟩
  have g0 : decide (100 < (x.body.length : Int)) = false := decide_eq_false (by omega)
  clear hlen
  cases hrx : rightB x with
  | false =>
    go_enter Try.func5, Try.ntmps5
    go_wp2_with (first
      | (go_at_call 12; go_must (refine (awake_any _).mono ?_; rintro e w1 ⟨rfl, hb⟩; have hxb : w1.heap[w.heap.size]? = some (.cells (celA x A c) 27 (0, 0)) := (hb.block _ (by simp)).trans (blk_new w _); have HXB := Aside0.mk hxb; obtain ⟨c0, c1, c2, c3, c4, c5, c6, c7, c8, c9⟩ := cel_at (x := x) (A := A) (c := c) hxb; have c10 : w1.cell? ⟨w.heap.size, 10, none⟩ = some (.slice A x.body.length c) := blk_cell hxb 10; have HB := Aside0.mk ((below_alloc (Below.refl w.heap.size w) (.cells (celA x A c) 27)).trans (hb.mono (by simp))); clear hb hxb))
      | (go_at_call 18; go_must (refine (right_any x A c _ (Kd.C_below HR.out HB.out) HT.out.wf.2.2).mono ?_; rintro e w2 ⟨rfl, hb⟩; rw [hrx]; replace HB := Aside0.mk (HB.out.trans (hb.mono HB.out.size)); clear hb)))
    go_ret
    exact ⟨rfl, HB.out⟩
  | true =>
    have HX := Aside0.mk hrx
    have M1 := Aside0.mk (fld_min HT.out.wf hrx mn)
    go_enter Try.func5, Try.ntmps5
    go_upto_region 7 with (first
      | (go_at_call 12; go_must (refine (awake_any _).mono ?_; rintro e w1 ⟨rfl, hb⟩; have hxb : w1.heap[w.heap.size]? = some (.cells (celA x A c) 27 (0, 0)) := (hb.block _ (by simp)).trans (blk_new w _); have HXB := Aside0.mk hxb; obtain ⟨c0, c1, c2, c3, c4, c5, c6, c7, c8, c9⟩ := cel_at (x := x) (A := A) (c := c) hxb; have c10 : w1.cell? ⟨w.heap.size, 10, none⟩ = some (.slice A x.body.length c) := blk_cell hxb 10; have HB := Aside0.mk ((below_alloc (Below.refl w.heap.size w) (.cells (celA x A c) 27)).trans (hb.mono (by simp))); clear hb hxb))
      | (go_at_call 18; go_must (refine (right_any x A c _ (Kd.C_below HR.out HB.out) HT.out.wf.2.2).mono ?_; rintro e w2 ⟨rfl, hb⟩; rw [hrx]; replace c0 := pw_cell_below hb c0; replace c1 := pw_cell_below hb c1; replace c2 := pw_cell_below hb c2; replace c3 := pw_cell_below hb c3; replace c4 := pw_cell_below hb c4; replace c5 := pw_cell_below hb c5; replace c6 := pw_cell_below hb c6; replace c7 := pw_cell_below hb c7; replace c8 := pw_cell_below hb c8; replace c9 := pw_cell_below hb c9; replace c10 := pw_cell_below hb c10; replace HXB := Aside0.mk ((hb.block _ (blk_lt HXB.out)).trans HXB.out); replace HB := Aside0.mk (HB.out.trans (hb.mono HB.out.size)); clear hb)))
    obtain ⟨W3, hW3⟩ : ∃ W3, W3 = w2.alloc (.cells (celA { x with min := mn } A c) 27) := ⟨_, rfl⟩
    rw [← hW3]
    have HW2 := Aside0.mk (blk_lt HXB.out)
    have hb : Below w2.heap.size w2 W3 := by rw [hW3]; exact below_alloc (Below.refl _ _) _
    have hD : W3.heap[w2.heap.size]? = some (.cells (celA { x with min := mn } A c) 27 (0, 0)) := by rw [hW3]; exact blk_new _ _
    clear hW3
    have HD := Aside0.mk hD
    obtain ⟨d0, d1, d2, d3, d4, d5, d6, d7, d8, d9⟩ := cel_at (x := { x with min := mn }) (A := A) (c := c) hD; have d10 : W3.cell? ⟨w2.heap.size, 10, none⟩ = some (.slice A { x with min := mn }.body.length c) := blk_cell hD 10
    replace c0 := pw_cell_below hb c0; replace c1 := pw_cell_below hb c1; replace c2 := pw_cell_below hb c2; replace c3 := pw_cell_below hb c3; replace c4 := pw_cell_below hb c4; replace c5 := pw_cell_below hb c5; replace c6 := pw_cell_below hb c6; replace c7 := pw_cell_below hb c7; replace c8 := pw_cell_below hb c8; replace c9 := pw_cell_below hb c9; replace c10 := pw_cell_below hb c10
    replace HXB := Aside0.mk ((hb.block _ (blk_lt HXB.out)).trans HXB.out)
    replace HB := Aside0.mk (HB.out.trans (hb.mono HB.out.size))
    simp only at d0 d1 d2 d3 d4 d5 d6 d7 d8 d9 d10
    clear hb hD
    go_cut [32] from 24 to 32 (fun v wx => v = .bool false ∧ Aside0 (wx.heap[w.heap.size]? = some (.cells (celA x A c) 27 (0, 0))) ∧ Aside0 (wx.heap[w2.heap.size]? = some (.cells (celA { x with min := mn } A c) 27 (0, 0))) ∧ Aside0 (Below w.heap.size w wx))
    case first =>
      by_cases h1 : 0 ≤ mn
      · by_cases h2 : mn ≤ 1073741824
        · have HV := Aside0.mk (show rightB { x with min := mn } = true by rw [M1.out]; exact decide_eq_true ⟨h1, h2⟩)
          have f1 : decide (0 ≤ mn) = true := decide_eq_true h1
          have f2 : decide (mn ≤ 1073741824) = true := decide_eq_true h2
          clear h1 h2
          go_wp2_with (go_at_call 18; go_must (refine (right_any { x with min := mn } A c _ (Kd.C_below HR.out HB.out) HT.out.wf.2.2).mono ?_; rintro e y1 ⟨rfl, hb⟩; rw [HV.out]; replace c0 := pw_cell_below hb c0; replace c1 := pw_cell_below hb c1; replace c2 := pw_cell_below hb c2; replace c3 := pw_cell_below hb c3; replace c4 := pw_cell_below hb c4; replace c5 := pw_cell_below hb c5; replace c6 := pw_cell_below hb c6; replace c7 := pw_cell_below hb c7; replace c8 := pw_cell_below hb c8; replace c9 := pw_cell_below hb c9; replace c10 := pw_cell_below hb c10; replace HXB := Aside0.mk ((hb.block _ (blk_lt HXB.out)).trans HXB.out); replace HD := Aside0.mk ((hb.block _ (blk_lt HD.out)).trans HD.out); replace HB := Aside0.mk (HB.out.trans (hb.mono HB.out.size)); clear hb))
          go_meet
          case rel => exact ⟨rfl, HXB, HD, HB⟩
        · have HV := Aside0.mk (show rightB { x with min := mn } = false by rw [M1.out]; exact decide_eq_false (fun h => h2 h.2))
          have f1 : decide (0 ≤ mn) = true := decide_eq_true h1
          have f2 : decide (mn ≤ 1073741824) = false := decide_eq_false h2
          clear h1 h2
          go_wp2_with (go_at_call 18; go_must (refine (right_any { x with min := mn } A c _ (Kd.C_below HR.out HB.out) HT.out.wf.2.2).mono ?_; rintro e y1 ⟨rfl, hb⟩; rw [HV.out]; replace c0 := pw_cell_below hb c0; replace c1 := pw_cell_below hb c1; replace c2 := pw_cell_below hb c2; replace c3 := pw_cell_below hb c3; replace c4 := pw_cell_below hb c4; replace c5 := pw_cell_below hb c5; replace c6 := pw_cell_below hb c6; replace c7 := pw_cell_below hb c7; replace c8 := pw_cell_below hb c8; replace c9 := pw_cell_below hb c9; replace c10 := pw_cell_below hb c10; replace HXB := Aside0.mk ((hb.block _ (blk_lt HXB.out)).trans HXB.out); replace HD := Aside0.mk ((hb.block _ (blk_lt HD.out)).trans HD.out); replace HB := Aside0.mk (HB.out.trans (hb.mono HB.out.size)); clear hb))
          go_meet
          case rel => exact ⟨rfl, HXB, HD, HB⟩
      · have HV := Aside0.mk (show rightB { x with min := mn } = false by rw [M1.out]; exact decide_eq_false (fun h => h1 h.1))
        have f1 : decide (0 ≤ mn) = false := decide_eq_false h1
        clear h1
        go_wp2_with (go_at_call 18; go_must (refine (right_any { x with min := mn } A c _ (Kd.C_below HR.out HB.out) HT.out.wf.2.2).mono ?_; rintro e y1 ⟨rfl, hb⟩; rw [HV.out]; replace c0 := pw_cell_below hb c0; replace c1 := pw_cell_below hb c1; replace c2 := pw_cell_below hb c2; replace c3 := pw_cell_below hb c3; replace c4 := pw_cell_below hb c4; replace c5 := pw_cell_below hb c5; replace c6 := pw_cell_below hb c6; replace c7 := pw_cell_below hb c7; replace c8 := pw_cell_below hb c8; replace c9 := pw_cell_below hb c9; replace c10 := pw_cell_below hb c10; replace HXB := Aside0.mk ((hb.block _ (blk_lt HXB.out)).trans HXB.out); replace HD := Aside0.mk ((hb.block _ (blk_lt HD.out)).trans HD.out); replace HB := Aside0.mk (HB.out.trans (hb.mono HB.out.size)); clear hb))
        go_meet
        case rel => exact ⟨rfl, HXB, HD, HB⟩
    case rest =>
      obtain ⟨rfl, HXB, HD, HB⟩ := hcut
      clear c0 c1 c2 c3 c4 c5 c6 c7 c8 c9 c10 d0 d1 d2 d3 d4 d5 d6 d7 d8 d9 d10
      have hx := HXB.out
      have hd := HD.out
      have hlt : w.heap.size < w2.heap.size := HW2.out
      obtain ⟨c0, c1, c2, c3, c4, c5, c6, c7, c8, c9⟩ := cel_at (x := x) (A := A) (c := c) hx; have c10 : wc.cell? ⟨w.heap.size, 10, none⟩ = some (.slice A x.body.length c) := blk_cell hx 10
      obtain ⟨d0, d1, d2, d3, d4, d5, d6, d7, d8, d9⟩ := cel_at (x := { x with min := mn }) (A := A) (c := c) hd; have d10 : wc.cell? ⟨w2.heap.size, 10, none⟩ = some (.slice A { x with min := mn }.body.length c) := blk_cell hd 10
      simp only at d0 d1 d2 d3 d4 d5 d6 d7 d8 d9 d10
      have z0 := blk_frozen hd 0; have z1 := blk_frozen hd 1; have z2 := blk_frozen hd 2; have z3 := blk_frozen hd 3; have z4 := blk_frozen hd 4; have z5 := blk_frozen hd 5; have z6 := blk_frozen hd 6; have z7 := blk_frozen hd 7; have z8 := blk_frozen hd 8; have z9 := blk_frozen hd 9; have z10 := blk_frozen hd 10
      have HLT := Aside0.mk hlt
      clear hx hd
      go_upto_region 11 with (fail)
      obtain ⟨W5, hW5⟩ : ∃ W, W = (putCel wc w2.heap.size x A c).setCell ⟨w2.heap.size, 1, none⟩ (.int .u64 n) := ⟨_, rfl⟩
      rw [← hW5]
      replace HB := Aside0.mk (show Below w.heap.size w W5 by rw [hW5]; exact (putCel_below HB.out (Nat.le_of_lt hlt)).setCell (Nat.le_of_lt hlt) _)
      replace HXB := Aside0.mk (show W5.heap[w.heap.size]? = some (.cells (celA x A c) 27 (0, 0)) by rw [hW5]; exact (Below.heap_setCell _ _ _ _ (Nat.ne_of_lt hlt)).trans ((putCel_far (Nat.ne_of_lt hlt)).trans HXB.out))
      replace HD := Aside0.mk (show W5.heap[w2.heap.size]? = some (.cells (celA { x with num := n } A c) 27 (0, 0)) by rw [hW5]; exact blk_set (putCel_at (x := x) (A := A) (c := c) HD.out) 1 (.int .u64 n))
      clear hW5 c0 c1 c2 c3 c4 c5 c6 c7 c8 c9 c10 d0 d1 d2 d3 d4 d5 d6 d7 d8 d9 d10 z0 z1 z2 z3 z4 z5 z6 z7 z8 z9 z10 hlt
      have hx := HXB.out
      have hd := HD.out
      obtain ⟨c0, c1, c2, c3, c4, c5, c6, c7, c8, c9⟩ := cel_at (x := x) (A := A) (c := c) hx; have c10 : W5.cell? ⟨w.heap.size, 10, none⟩ = some (.slice A x.body.length c) := blk_cell hx 10
      obtain ⟨d0, d1, d2, d3, d4, d5, d6, d7, d8, d9⟩ := cel_at (x := { x with num := n }) (A := A) (c := c) hd; have d10 : W5.cell? ⟨w2.heap.size, 10, none⟩ = some (.slice A { x with num := n }.body.length c) := blk_cell hd 10
      simp only at d0 d1 d2 d3 d4 d5 d6 d7 d8 d9 d10
      clear hx hd
      have HS := Aside0.mk (right_small HT.out.wf HX.out).1.2.1
      go_cut [60] from 36 to 60 (fun v wx => v = .bool false ∧ Aside0 (wx.heap[w.heap.size]? = some (.cells (celA x A c) 27 (0, 0))) ∧ Aside0 (wx.heap[w2.heap.size]? = some (.cells (celA { x with num := n } A c) 27 (0, 0))) ∧ Aside0 (Below w.heap.size w wx))
      case first =>
        have hs := HS.out
        have hc := HC.out
        by_cases h1 : n < 1
        · skip
          have f1 : decide (n < 1) = true := decide_eq_true (by omega)
          have f3 : decide (x.num ≤ n) = false := decide_eq_false (by omega)
          have HV := Aside0.mk (show rightB { x with num := n } = false from fld_num_bad HT.out.wf hc.1 hc.2 (.inl h1))
          clear hs hc
          go_wp2_with (go_at_call 18; go_must (refine (right_any { x with num := n } A c _ (Kd.C_below HR.out HB.out) HT.out.wf.2.2).mono ?_; rintro e y2 ⟨rfl, hb⟩; rw [HV.out]; replace c0 := pw_cell_below hb c0; replace c1 := pw_cell_below hb c1; replace c2 := pw_cell_below hb c2; replace c3 := pw_cell_below hb c3; replace c4 := pw_cell_below hb c4; replace c5 := pw_cell_below hb c5; replace c6 := pw_cell_below hb c6; replace c7 := pw_cell_below hb c7; replace c8 := pw_cell_below hb c8; replace c9 := pw_cell_below hb c9; replace c10 := pw_cell_below hb c10; replace HXB := Aside0.mk ((hb.block _ (blk_lt HXB.out)).trans HXB.out); replace HD := Aside0.mk ((hb.block _ (blk_lt HD.out)).trans HD.out); replace HB := Aside0.mk (HB.out.trans (hb.mono HB.out.size)); clear hb))
          go_meet
          case rel => exact ⟨rfl, HXB, HD, HB⟩
        have f1 : decide (n < 1) = false := decide_eq_false h1
        by_cases h2 : 65535 < n
        · skip
          have f2 : decide (65535 < n) = true := decide_eq_true (by omega)
          have f3 : decide (x.num ≤ n) = true := decide_eq_true (by omega)
          have f4 : decide (n ≤ 65535) = false := decide_eq_false (by omega)
          have HV := Aside0.mk (show rightB { x with num := n } = false from fld_num_bad HT.out.wf hc.1 hc.2 (.inr h2))
          clear hs hc
          go_wp2_with (go_at_call 18; go_must (refine (right_any { x with num := n } A c _ (Kd.C_below HR.out HB.out) HT.out.wf.2.2).mono ?_; rintro e y2 ⟨rfl, hb⟩; rw [HV.out]; replace c0 := pw_cell_below hb c0; replace c1 := pw_cell_below hb c1; replace c2 := pw_cell_below hb c2; replace c3 := pw_cell_below hb c3; replace c4 := pw_cell_below hb c4; replace c5 := pw_cell_below hb c5; replace c6 := pw_cell_below hb c6; replace c7 := pw_cell_below hb c7; replace c8 := pw_cell_below hb c8; replace c9 := pw_cell_below hb c9; replace c10 := pw_cell_below hb c10; replace HXB := Aside0.mk ((hb.block _ (blk_lt HXB.out)).trans HXB.out); replace HD := Aside0.mk ((hb.block _ (blk_lt HD.out)).trans HD.out); replace HB := Aside0.mk (HB.out.trans (hb.mono HB.out.size)); clear hb))
          go_meet
          case rel => exact ⟨rfl, HXB, HD, HB⟩
        have f2 : decide (65535 < n) = false := decide_eq_false h2
        by_cases h3 : x.num ≤ n
        · skip
          have f3 : decide (x.num ≤ n) = true := decide_eq_true (by omega)
          have f4 : decide (n ≤ 65535) = true := decide_eq_true (by omega)
          have HV := Aside0.mk (show rightB { x with num := n } = true from fld_num_ok HT.out.wf HX.out hc.1 hc.2 h3 (by omega))
          clear hs hc
          go_wp2_with (go_at_call 18; go_must (refine (right_any { x with num := n } A c _ (Kd.C_below HR.out HB.out) HT.out.wf.2.2).mono ?_; rintro e y2 ⟨rfl, hb⟩; rw [HV.out]; replace c0 := pw_cell_below hb c0; replace c1 := pw_cell_below hb c1; replace c2 := pw_cell_below hb c2; replace c3 := pw_cell_below hb c3; replace c4 := pw_cell_below hb c4; replace c5 := pw_cell_below hb c5; replace c6 := pw_cell_below hb c6; replace c7 := pw_cell_below hb c7; replace c8 := pw_cell_below hb c8; replace c9 := pw_cell_below hb c9; replace c10 := pw_cell_below hb c10; replace HXB := Aside0.mk ((hb.block _ (blk_lt HXB.out)).trans HXB.out); replace HD := Aside0.mk ((hb.block _ (blk_lt HD.out)).trans HD.out); replace HB := Aside0.mk (HB.out.trans (hb.mono HB.out.size)); clear hb))
          go_meet
          case rel => exact ⟨rfl, HXB, HD, HB⟩
        have f3 : decide (x.num ≤ n) = false := decide_eq_false h3
        clear hs hc
        go_wp2_with (fail)
        go_meet
        case rel => exact ⟨rfl, HXB, HD, HB⟩
      case rest =>
      obtain ⟨rfl, HXB, HD, HB⟩ := hcut
      clear c0 c1 c2 c3 c4 c5 c6 c7 c8 c9 c10 d0 d1 d2 d3 d4 d5 d6 d7 d8 d9 d10 HLT
      have hx := HXB.out
      have hd := HD.out
      have hlt : w.heap.size < w2.heap.size := HW2.out
      obtain ⟨c0, c1, c2, c3, c4, c5, c6, c7, c8, c9⟩ := cel_at (x := x) (A := A) (c := c) hx; have c10 : wc.cell? ⟨w.heap.size, 10, none⟩ = some (.slice A x.body.length c) := blk_cell hx 10
      obtain ⟨d0, d1, d2, d3, d4, d5, d6, d7, d8, d9⟩ := cel_at (x := { x with num := n }) (A := A) (c := c) hd; have d10 : wc.cell? ⟨w2.heap.size, 10, none⟩ = some (.slice A { x with num := n }.body.length c) := blk_cell hd 10
      simp only at d0 d1 d2 d3 d4 d5 d6 d7 d8 d9 d10
      have z0 := blk_frozen hd 0; have z1 := blk_frozen hd 1; have z2 := blk_frozen hd 2; have z3 := blk_frozen hd 3; have z4 := blk_frozen hd 4; have z5 := blk_frozen hd 5; have z6 := blk_frozen hd 6; have z7 := blk_frozen hd 7; have z8 := blk_frozen hd 8; have z9 := blk_frozen hd 9; have z10 := blk_frozen hd 10
      have HLT := Aside0.mk hlt
      clear hx hd
      go_upto_region 15 with (fail)
      obtain ⟨W6, hW6⟩ : ∃ W, W = (putCel wc w2.heap.size x A c).setCell ⟨w2.heap.size, 5, none⟩ (.int .i64 bk) := ⟨_, rfl⟩
      rw [← hW6]
      replace HB := Aside0.mk (show Below w.heap.size w W6 by rw [hW6]; exact (putCel_below HB.out (Nat.le_of_lt hlt)).setCell (Nat.le_of_lt hlt) _)
      replace HXB := Aside0.mk (show W6.heap[w.heap.size]? = some (.cells (celA x A c) 27 (0, 0)) by rw [hW6]; exact (Below.heap_setCell _ _ _ _ (Nat.ne_of_lt hlt)).trans ((putCel_far (Nat.ne_of_lt hlt)).trans HXB.out))
      replace HD := Aside0.mk (show W6.heap[w2.heap.size]? = some (.cells (celA { x with blk := bk } A c) 27 (0, 0)) by rw [hW6]; exact blk_set (putCel_at (x := x) (A := A) (c := c) HD.out) 5 (.int .i64 bk))
      clear hW6 c0 c1 c2 c3 c4 c5 c6 c7 c8 c9 c10 d0 d1 d2 d3 d4 d5 d6 d7 d8 d9 d10 z0 z1 z2 z3 z4 z5 z6 z7 z8 z9 z10 hlt
      have hx := HXB.out
      have hd := HD.out
      obtain ⟨c0, c1, c2, c3, c4, c5, c6, c7, c8, c9⟩ := cel_at (x := x) (A := A) (c := c) hx; have c10 : W6.cell? ⟨w.heap.size, 10, none⟩ = some (.slice A x.body.length c) := blk_cell hx 10
      obtain ⟨d0, d1, d2, d3, d4, d5, d6, d7, d8, d9⟩ := cel_at (x := { x with blk := bk }) (A := A) (c := c) hd; have d10 : W6.cell? ⟨w2.heap.size, 10, none⟩ = some (.slice A { x with blk := bk }.body.length c) := blk_cell hd 10
      simp only at d0 d1 d2 d3 d4 d5 d6 d7 d8 d9 d10
      clear hx hd
      by_cases hk : x.kind = 1 ∨ x.kind = 2 ∨ x.kind = 3
      · have hmm : momentB x = true := decide_eq_true hk
        have hv := fld_blk_write HT.out.wf HX.out hk bk
        clear hk
        by_cases h1 : 0 ≤ bk
        · have f1 : decide (0 ≤ bk) = true := decide_eq_true h1
          by_cases h2 : bk ≤ 255
          · have f2 : decide (bk ≤ 255) = true := decide_eq_true h2
            have HV := Aside0.mk (show rightB { x with blk := bk } = true by rw [hv]; exact decide_eq_true ⟨h1, h2⟩)
            clear hv h1 h2
            go_wp2_with (first | (go_at_call 19; go_must (refine (moment_any x A c _).mono ?_; rintro e y3 ⟨rfl, hb⟩; rw [hmm]; replace c0 := pw_cell_below hb c0; replace c1 := pw_cell_below hb c1; replace c2 := pw_cell_below hb c2; replace c3 := pw_cell_below hb c3; replace c4 := pw_cell_below hb c4; replace c5 := pw_cell_below hb c5; replace c6 := pw_cell_below hb c6; replace c7 := pw_cell_below hb c7; replace c8 := pw_cell_below hb c8; replace c9 := pw_cell_below hb c9; replace c10 := pw_cell_below hb c10; replace d0 := pw_cell_below hb d0; replace d1 := pw_cell_below hb d1; replace d2 := pw_cell_below hb d2; replace d3 := pw_cell_below hb d3; replace d4 := pw_cell_below hb d4; replace d5 := pw_cell_below hb d5; replace d6 := pw_cell_below hb d6; replace d7 := pw_cell_below hb d7; replace d8 := pw_cell_below hb d8; replace d9 := pw_cell_below hb d9; replace d10 := pw_cell_below hb d10; replace HXB := Aside0.mk ((hb.block _ (blk_lt HXB.out)).trans HXB.out); replace HD := Aside0.mk ((hb.block _ (blk_lt HD.out)).trans HD.out); replace HB := Aside0.mk (HB.out.trans (hb.mono HB.out.size)); clear hb)) | (go_at_call 18; go_must (refine (right_any { x with blk := bk } A c _ (Kd.C_below HR.out HB.out) HT.out.wf.2.2).mono ?_; rintro e y4 ⟨rfl, hb⟩; rw [HV.out]; replace c0 := pw_cell_below hb c0; replace c1 := pw_cell_below hb c1; replace c2 := pw_cell_below hb c2; replace c3 := pw_cell_below hb c3; replace c4 := pw_cell_below hb c4; replace c5 := pw_cell_below hb c5; replace c6 := pw_cell_below hb c6; replace c7 := pw_cell_below hb c7; replace c8 := pw_cell_below hb c8; replace c9 := pw_cell_below hb c9; replace c10 := pw_cell_below hb c10; replace HXB := Aside0.mk ((hb.block _ (blk_lt HXB.out)).trans HXB.out); replace HD := Aside0.mk ((hb.block _ (blk_lt HD.out)).trans HD.out); replace HB := Aside0.mk (HB.out.trans (hb.mono HB.out.size)); clear hb)))
            go_ret
            exact ⟨rfl, HB.out⟩
          · have f2 : decide (bk ≤ 255) = false := decide_eq_false h2
            have HV := Aside0.mk (show rightB { x with blk := bk } = false by rw [hv]; exact decide_eq_false (fun h => h2 h.2))
            clear hv h1 h2
            go_wp2_with (first | (go_at_call 19; go_must (refine (moment_any x A c _).mono ?_; rintro e y3 ⟨rfl, hb⟩; rw [hmm]; replace c0 := pw_cell_below hb c0; replace c1 := pw_cell_below hb c1; replace c2 := pw_cell_below hb c2; replace c3 := pw_cell_below hb c3; replace c4 := pw_cell_below hb c4; replace c5 := pw_cell_below hb c5; replace c6 := pw_cell_below hb c6; replace c7 := pw_cell_below hb c7; replace c8 := pw_cell_below hb c8; replace c9 := pw_cell_below hb c9; replace c10 := pw_cell_below hb c10; replace d0 := pw_cell_below hb d0; replace d1 := pw_cell_below hb d1; replace d2 := pw_cell_below hb d2; replace d3 := pw_cell_below hb d3; replace d4 := pw_cell_below hb d4; replace d5 := pw_cell_below hb d5; replace d6 := pw_cell_below hb d6; replace d7 := pw_cell_below hb d7; replace d8 := pw_cell_below hb d8; replace d9 := pw_cell_below hb d9; replace d10 := pw_cell_below hb d10; replace HXB := Aside0.mk ((hb.block _ (blk_lt HXB.out)).trans HXB.out); replace HD := Aside0.mk ((hb.block _ (blk_lt HD.out)).trans HD.out); replace HB := Aside0.mk (HB.out.trans (hb.mono HB.out.size)); clear hb)) | (go_at_call 18; go_must (refine (right_any { x with blk := bk } A c _ (Kd.C_below HR.out HB.out) HT.out.wf.2.2).mono ?_; rintro e y4 ⟨rfl, hb⟩; rw [HV.out]; replace c0 := pw_cell_below hb c0; replace c1 := pw_cell_below hb c1; replace c2 := pw_cell_below hb c2; replace c3 := pw_cell_below hb c3; replace c4 := pw_cell_below hb c4; replace c5 := pw_cell_below hb c5; replace c6 := pw_cell_below hb c6; replace c7 := pw_cell_below hb c7; replace c8 := pw_cell_below hb c8; replace c9 := pw_cell_below hb c9; replace c10 := pw_cell_below hb c10; replace HXB := Aside0.mk ((hb.block _ (blk_lt HXB.out)).trans HXB.out); replace HD := Aside0.mk ((hb.block _ (blk_lt HD.out)).trans HD.out); replace HB := Aside0.mk (HB.out.trans (hb.mono HB.out.size)); clear hb)))
            go_ret
            exact ⟨rfl, HB.out⟩
        · have f1 : decide (0 ≤ bk) = false := decide_eq_false h1
          have HV := Aside0.mk (show rightB { x with blk := bk } = false by rw [hv]; exact decide_eq_false (fun h => h1 h.1))
          clear hv h1
          go_wp2_with (first | (go_at_call 19; go_must (refine (moment_any x A c _).mono ?_; rintro e y3 ⟨rfl, hb⟩; rw [hmm]; replace c0 := pw_cell_below hb c0; replace c1 := pw_cell_below hb c1; replace c2 := pw_cell_below hb c2; replace c3 := pw_cell_below hb c3; replace c4 := pw_cell_below hb c4; replace c5 := pw_cell_below hb c5; replace c6 := pw_cell_below hb c6; replace c7 := pw_cell_below hb c7; replace c8 := pw_cell_below hb c8; replace c9 := pw_cell_below hb c9; replace c10 := pw_cell_below hb c10; replace d0 := pw_cell_below hb d0; replace d1 := pw_cell_below hb d1; replace d2 := pw_cell_below hb d2; replace d3 := pw_cell_below hb d3; replace d4 := pw_cell_below hb d4; replace d5 := pw_cell_below hb d5; replace d6 := pw_cell_below hb d6; replace d7 := pw_cell_below hb d7; replace d8 := pw_cell_below hb d8; replace d9 := pw_cell_below hb d9; replace d10 := pw_cell_below hb d10; replace HXB := Aside0.mk ((hb.block _ (blk_lt HXB.out)).trans HXB.out); replace HD := Aside0.mk ((hb.block _ (blk_lt HD.out)).trans HD.out); replace HB := Aside0.mk (HB.out.trans (hb.mono HB.out.size)); clear hb)) | (go_at_call 18; go_must (refine (right_any { x with blk := bk } A c _ (Kd.C_below HR.out HB.out) HT.out.wf.2.2).mono ?_; rintro e y4 ⟨rfl, hb⟩; rw [HV.out]; replace c0 := pw_cell_below hb c0; replace c1 := pw_cell_below hb c1; replace c2 := pw_cell_below hb c2; replace c3 := pw_cell_below hb c3; replace c4 := pw_cell_below hb c4; replace c5 := pw_cell_below hb c5; replace c6 := pw_cell_below hb c6; replace c7 := pw_cell_below hb c7; replace c8 := pw_cell_below hb c8; replace c9 := pw_cell_below hb c9; replace c10 := pw_cell_below hb c10; replace HXB := Aside0.mk ((hb.block _ (blk_lt HXB.out)).trans HXB.out); replace HD := Aside0.mk ((hb.block _ (blk_lt HD.out)).trans HD.out); replace HB := Aside0.mk (HB.out.trans (hb.mono HB.out.size)); clear hb)))
          go_ret
          exact ⟨rfl, HB.out⟩
      · have hmm : momentB x = false := decide_eq_false hk
        have hv := fld_blk_else HT.out.wf HX.out hk bk
        clear hk
        by_cases h1 : bk = 0
        · have f1 : (bk == 0) = true := beq_iff_eq.2 h1
          have HV := Aside0.mk (show rightB { x with blk := bk } = true by rw [hv]; exact decide_eq_true h1)
          clear hv h1
          go_wp2_with (first | (go_at_call 19; go_must (refine (moment_any x A c _).mono ?_; rintro e y3 ⟨rfl, hb⟩; rw [hmm]; replace c0 := pw_cell_below hb c0; replace c1 := pw_cell_below hb c1; replace c2 := pw_cell_below hb c2; replace c3 := pw_cell_below hb c3; replace c4 := pw_cell_below hb c4; replace c5 := pw_cell_below hb c5; replace c6 := pw_cell_below hb c6; replace c7 := pw_cell_below hb c7; replace c8 := pw_cell_below hb c8; replace c9 := pw_cell_below hb c9; replace c10 := pw_cell_below hb c10; replace d0 := pw_cell_below hb d0; replace d1 := pw_cell_below hb d1; replace d2 := pw_cell_below hb d2; replace d3 := pw_cell_below hb d3; replace d4 := pw_cell_below hb d4; replace d5 := pw_cell_below hb d5; replace d6 := pw_cell_below hb d6; replace d7 := pw_cell_below hb d7; replace d8 := pw_cell_below hb d8; replace d9 := pw_cell_below hb d9; replace d10 := pw_cell_below hb d10; replace HXB := Aside0.mk ((hb.block _ (blk_lt HXB.out)).trans HXB.out); replace HD := Aside0.mk ((hb.block _ (blk_lt HD.out)).trans HD.out); replace HB := Aside0.mk (HB.out.trans (hb.mono HB.out.size)); clear hb)) | (go_at_call 18; go_must (refine (right_any { x with blk := bk } A c _ (Kd.C_below HR.out HB.out) HT.out.wf.2.2).mono ?_; rintro e y4 ⟨rfl, hb⟩; rw [HV.out]; replace c0 := pw_cell_below hb c0; replace c1 := pw_cell_below hb c1; replace c2 := pw_cell_below hb c2; replace c3 := pw_cell_below hb c3; replace c4 := pw_cell_below hb c4; replace c5 := pw_cell_below hb c5; replace c6 := pw_cell_below hb c6; replace c7 := pw_cell_below hb c7; replace c8 := pw_cell_below hb c8; replace c9 := pw_cell_below hb c9; replace c10 := pw_cell_below hb c10; replace HXB := Aside0.mk ((hb.block _ (blk_lt HXB.out)).trans HXB.out); replace HD := Aside0.mk ((hb.block _ (blk_lt HD.out)).trans HD.out); replace HB := Aside0.mk (HB.out.trans (hb.mono HB.out.size)); clear hb)))
          go_ret
          exact ⟨rfl, HB.out⟩
        · have f1 : (bk == 0) = false := beq_eq_false_iff_ne.2 h1
          have HV := Aside0.mk (show rightB { x with blk := bk } = false by rw [hv]; exact decide_eq_false h1)
          clear hv h1
          go_wp2_with (first | (go_at_call 19; go_must (refine (moment_any x A c _).mono ?_; rintro e y3 ⟨rfl, hb⟩; rw [hmm]; replace c0 := pw_cell_below hb c0; replace c1 := pw_cell_below hb c1; replace c2 := pw_cell_below hb c2; replace c3 := pw_cell_below hb c3; replace c4 := pw_cell_below hb c4; replace c5 := pw_cell_below hb c5; replace c6 := pw_cell_below hb c6; replace c7 := pw_cell_below hb c7; replace c8 := pw_cell_below hb c8; replace c9 := pw_cell_below hb c9; replace c10 := pw_cell_below hb c10; replace d0 := pw_cell_below hb d0; replace d1 := pw_cell_below hb d1; replace d2 := pw_cell_below hb d2; replace d3 := pw_cell_below hb d3; replace d4 := pw_cell_below hb d4; replace d5 := pw_cell_below hb d5; replace d6 := pw_cell_below hb d6; replace d7 := pw_cell_below hb d7; replace d8 := pw_cell_below hb d8; replace d9 := pw_cell_below hb d9; replace d10 := pw_cell_below hb d10; replace HXB := Aside0.mk ((hb.block _ (blk_lt HXB.out)).trans HXB.out); replace HD := Aside0.mk ((hb.block _ (blk_lt HD.out)).trans HD.out); replace HB := Aside0.mk (HB.out.trans (hb.mono HB.out.size)); clear hb)) | (go_at_call 18; go_must (refine (right_any { x with blk := bk } A c _ (Kd.C_below HR.out HB.out) HT.out.wf.2.2).mono ?_; rintro e y4 ⟨rfl, hb⟩; rw [HV.out]; replace c0 := pw_cell_below hb c0; replace c1 := pw_cell_below hb c1; replace c2 := pw_cell_below hb c2; replace c3 := pw_cell_below hb c3; replace c4 := pw_cell_below hb c4; replace c5 := pw_cell_below hb c5; replace c6 := pw_cell_below hb c6; replace c7 := pw_cell_below hb c7; replace c8 := pw_cell_below hb c8; replace c9 := pw_cell_below hb c9; replace c10 := pw_cell_below hb c10; replace HXB := Aside0.mk ((hb.block _ (blk_lt HXB.out)).trans HXB.out); replace HD := Aside0.mk ((hb.block _ (blk_lt HD.out)).trans HD.out); replace HB := Aside0.mk (HB.out.trans (hb.mono HB.out.size)); clear hb)))
          go_ret
          exact ⟨rfl, HB.out⟩
end Go.Proofs.Ytbbnjcpeikklgaa.Cell
