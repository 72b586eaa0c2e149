/- CellDecodes answers true for all bytes. No conditions. -/
import Derived.Test.YtbbnjcpeikklgaaCellRefDec
import Derived.Test.YtbbnjcpeikklgaaCellSameLaw
namespace Go.Proofs.Ytbbnjcpeikklgaa.Cell
open Go.RowKit Go.Proofs.YtbbnjcpeikklgaaW.PrintWords Go.Proofs.YtbbnjcpeikklgaaW.PrintLast Go.Proofs.YtbbnjcpeikklgaaW.PrintMore Go.Proofs.Ytbbnjcpeikklgaa.Kit Go.Proofs.Ytbbnjcpeikklgaa.Plain Go.Proofs.Ytbbnjcpeikklgaa.Wire
set_option linter.unusedVariables false
set_option linter.unusedSimpArgs false
theorem CelWf.byt' {x : Cel} (h : CelWf x) : Byt x.body := by
  obtain ⟨_, _, h⟩ := h
  exact h
/-- What the reference tells of bytes. -/
def rdecS (b : List Int) : Cel × Int × Int := ((decS b).1, if (decS b).2.2 = 0 then ((totalS b : Nat) : Int) else 0, (decS b).2.2)
set_option maxHeartbeats 1600000 in
set_option maxRecDepth 100000 in
theorem refdec_empty (A : Option Addr) (c : Nat) (w : World) :
    Calls Try.prog 22 #[.slice A 0 c] w fun e w' => RDecd w w' e (cel0, 0, 14) := by
  go_enter Try.func22, Try.ntmps22
  go_wp2
  refine bodyPost_ret (v := .tuple #[.agg (celA cel0 none 0), .int .i64 0, .int .i64 14]) (by simp [results, Try.results22, go_sem, cel0]) rfl ?_
  exact ⟨⟨none, 0, rfl, RdB_nil _⟩, below_alloc (Below.refl _ _) _⟩
set_option maxHeartbeats 3200000 in
set_option maxRecDepth 100000 in
theorem refdec_no (A : Option Addr) (c : Nat) (b : List Int) (w : World) (hr : RdB w A b) (hc : b.length ≤ c) (hy : Byt b) (h00 : b.length ≠ 0) (hK : ¬ (1 ≤ gv b 0 1 ∧ gv b 0 1 ≤ 8)) :
    Calls Try.prog 22 #[.slice A b.length c] w fun e w' => RDecd w w' e (cel0, 0, 3) := by
  have hmx := C_max hr
  obtain ⟨ad, rfl, h0⟩ := cell_in hr 0 (by omega)
  rw [add_0] at h0
  have hg0 := gv_range hy 0 1
  have e0 : IntKind.i64.wrap (gv b 0 1) = gv b 0 1 := IntWalk.i64_in _ (by omega)
  have HR := Aside0.mk hr
  have HK := Aside0.mk hK
  clear hr hy hc hg0 hK
  have hb0 : (b.length : Int) ≠ 0 := by omega
  have fb0 : ((b.length : Int) == 0) = false := beq_eq_false_iff_ne.2 hb0
  have hbi : (0 : Int) < (b.length : Int) := by omega
  go_enter Try.func22, Try.ntmps22
  go_upto_region 3 with (fail)
  obtain ⟨W0, hW0⟩ : ∃ W0, W0 = w.alloc (.cells #[.int .i64 0, .int .u64 0, .int .i64 0, .int .i64 0, .int .i64 0, .int .i64 0, .int .u64 0, .int .i64 0, .int .i64 0, .int .i64 0, .slice none 0 0] 27) := ⟨_, rfl⟩
  rw [← hW0]
  have hb1 : Below w.heap.size w W0 := by rw [hW0]; exact below_alloc (Below.refl _ _) _
  have hres0 : W0.heap[w.heap.size]? = some (.cells (celA cel0 none 0) 27 (0, 0)) := by rw [hW0]; exact blk_new _ _
  have h0' := pw_cell_below hb1 h0
  have HS0 := Aside0.mk (And.intro hb1 hres0)
  clear hW0 hb1 hres0 h0
  by_cases k1 : gv b 0 1 < 1
  · have f1 : decide (gv b 0 1 < 1) = true := decide_eq_true k1
    clear k1
    go_upto_region 5 with (fail)
    obtain ⟨W1, hW1⟩ : ∃ W1, W1 = W0.alloc (.cells #[.int .i64 (gv b 0 1), .int .u64 0, .int .i64 0, .int .i64 0, .int .i64 0, .int .i64 0, .int .u64 0, .int .i64 0, .int .i64 0, .int .i64 0, .slice none 0 0] 27) := ⟨_, rfl⟩
    rw [← hW1]
    have hr1 : W1.heap[w.heap.size]? = some (.cells (celA cel0 none 0) 27 (0, 0)) := by rw [hW1]; exact blk_alloc HS0.out.2 _
    have hb2 : Below w.heap.size w W1 := by rw [hW1]; exact HS0.out.1.alloc HS0.out.1.size _
    have HQ := Aside0.mk (And.intro hr1 hb2)
    clear hW1
    have t0 : W1.cell? ⟨w.heap.size, 0, none⟩ = some (.int .i64 0) := blk_cell hr1 0
    have t1 : W1.cell? ⟨w.heap.size, 1, none⟩ = some (.int .u64 0) := blk_cell hr1 1
    have t2 : W1.cell? ⟨w.heap.size, 2, none⟩ = some (.int .i64 0) := blk_cell hr1 2
    have t3 : W1.cell? ⟨w.heap.size, 3, none⟩ = some (.int .i64 0) := blk_cell hr1 3
    have t4 : W1.cell? ⟨w.heap.size, 4, none⟩ = some (.int .i64 0) := blk_cell hr1 4
    have t5 : W1.cell? ⟨w.heap.size, 5, none⟩ = some (.int .i64 0) := blk_cell hr1 5
    have t6 : W1.cell? ⟨w.heap.size, 6, none⟩ = some (.int .u64 0) := blk_cell hr1 6
    have t7 : W1.cell? ⟨w.heap.size, 7, none⟩ = some (.int .i64 0) := blk_cell hr1 7
    have t8 : W1.cell? ⟨w.heap.size, 8, none⟩ = some (.int .i64 0) := blk_cell hr1 8
    have t9 : W1.cell? ⟨w.heap.size, 9, none⟩ = some (.int .i64 0) := blk_cell hr1 9
    have t10 : W1.cell? ⟨w.heap.size, 10, none⟩ = some (.slice none 0 0) := blk_cell hr1 10
    have zt0 := blk_frozen hr1 0
    have zt1 := blk_frozen hr1 1
    have zt2 := blk_frozen hr1 2
    have zt3 := blk_frozen hr1 3
    have zt4 := blk_frozen hr1 4
    have zt5 := blk_frozen hr1 5
    have zt6 := blk_frozen hr1 6
    have zt7 := blk_frozen hr1 7
    have zt8 := blk_frozen hr1 8
    have zt9 := blk_frozen hr1 9
    have zt10 := blk_frozen hr1 10
    clear hr1 hb2
    go_wp2
    obtain ⟨W9, hW9⟩ : ∃ W9, W9 = (((((((((((W1.setCell ⟨w.heap.size, 0, none⟩ (.int .i64 0)).setCell ⟨w.heap.size, 1, none⟩ (.int .u64 0)).setCell ⟨w.heap.size, 2, none⟩ (.int .i64 0)).setCell ⟨w.heap.size, 3, none⟩ (.int .i64 0)).setCell ⟨w.heap.size, 4, none⟩ (.int .i64 0)).setCell ⟨w.heap.size, 5, none⟩ (.int .i64 0)).setCell ⟨w.heap.size, 6, none⟩ (.int .u64 0)).setCell ⟨w.heap.size, 7, none⟩ (.int .i64 0)).setCell ⟨w.heap.size, 8, none⟩ (.int .i64 0)).setCell ⟨w.heap.size, 9, none⟩ (.int .i64 0)).setCell ⟨w.heap.size, 10, none⟩ (.slice none 0 0)) := ⟨_, rfl⟩
    rw [← hW9]
    have hr9 : W9.heap[w.heap.size]? = some (.cells (celA cel0 none 0) 27 (0, 0)) := by rw [hW9]; exact putCell_at (x := cel0) (A := none) (c := 0) HQ.out.1
    have hb9 : Below w.heap.size w W9 := by rw [hW9]; exact putCell_below (x := cel0) (A := none) (c := 0) HQ.out.2 (Nat.le_refl _)
    clear hW9 t0 t1 t2 t3 t4 t5 t6 t7 t8 t9 t10
    have t0 : W9.cell? ⟨w.heap.size, 0, none⟩ = some (.int .i64 0) := blk_cell hr9 0
    have t1 : W9.cell? ⟨w.heap.size, 1, none⟩ = some (.int .u64 0) := blk_cell hr9 1
    have t2 : W9.cell? ⟨w.heap.size, 2, none⟩ = some (.int .i64 0) := blk_cell hr9 2
    have t3 : W9.cell? ⟨w.heap.size, 3, none⟩ = some (.int .i64 0) := blk_cell hr9 3
    have t4 : W9.cell? ⟨w.heap.size, 4, none⟩ = some (.int .i64 0) := blk_cell hr9 4
    have t5 : W9.cell? ⟨w.heap.size, 5, none⟩ = some (.int .i64 0) := blk_cell hr9 5
    have t6 : W9.cell? ⟨w.heap.size, 6, none⟩ = some (.int .u64 0) := blk_cell hr9 6
    have t7 : W9.cell? ⟨w.heap.size, 7, none⟩ = some (.int .i64 0) := blk_cell hr9 7
    have t8 : W9.cell? ⟨w.heap.size, 8, none⟩ = some (.int .i64 0) := blk_cell hr9 8
    have t9 : W9.cell? ⟨w.heap.size, 9, none⟩ = some (.int .i64 0) := blk_cell hr9 9
    have t10 : W9.cell? ⟨w.heap.size, 10, none⟩ = some (.slice none 0 0) := blk_cell hr9 10
    refine bodyPost_ret (v := .tuple #[.agg (celA cel0 none 0), .int .i64 0, .int .i64 3]) (by simp [results, Try.results22, go_sem, cel0, t0, t1, t2, t3, t4, t5, t6, t7, t8, t9, t10]) rfl ?_
    exact ⟨⟨none, 0, rfl, RdB_nil _⟩, hb9⟩
  have f1 : decide (gv b 0 1 < 1) = false := decide_eq_false k1
  have f2 : decide (8 < gv b 0 1) = true := decide_eq_true (by have := HK.out; omega)
  clear k1
  go_upto_region 5 with (fail)
  obtain ⟨W1, hW1⟩ : ∃ W1, W1 = W0.alloc (.cells #[.int .i64 (gv b 0 1), .int .u64 0, .int .i64 0, .int .i64 0, .int .i64 0, .int .i64 0, .int .u64 0, .int .i64 0, .int .i64 0, .int .i64 0, .slice none 0 0] 27) := ⟨_, rfl⟩
  rw [← hW1]
  have hr1 : W1.heap[w.heap.size]? = some (.cells (celA cel0 none 0) 27 (0, 0)) := by rw [hW1]; exact blk_alloc HS0.out.2 _
  have hb2 : Below w.heap.size w W1 := by rw [hW1]; exact HS0.out.1.alloc HS0.out.1.size _
  have HQ := Aside0.mk (And.intro hr1 hb2)
  clear hW1
  have t0 : W1.cell? ⟨w.heap.size, 0, none⟩ = some (.int .i64 0) := blk_cell hr1 0
  have t1 : W1.cell? ⟨w.heap.size, 1, none⟩ = some (.int .u64 0) := blk_cell hr1 1
  have t2 : W1.cell? ⟨w.heap.size, 2, none⟩ = some (.int .i64 0) := blk_cell hr1 2
  have t3 : W1.cell? ⟨w.heap.size, 3, none⟩ = some (.int .i64 0) := blk_cell hr1 3
  have t4 : W1.cell? ⟨w.heap.size, 4, none⟩ = some (.int .i64 0) := blk_cell hr1 4
  have t5 : W1.cell? ⟨w.heap.size, 5, none⟩ = some (.int .i64 0) := blk_cell hr1 5
  have t6 : W1.cell? ⟨w.heap.size, 6, none⟩ = some (.int .u64 0) := blk_cell hr1 6
  have t7 : W1.cell? ⟨w.heap.size, 7, none⟩ = some (.int .i64 0) := blk_cell hr1 7
  have t8 : W1.cell? ⟨w.heap.size, 8, none⟩ = some (.int .i64 0) := blk_cell hr1 8
  have t9 : W1.cell? ⟨w.heap.size, 9, none⟩ = some (.int .i64 0) := blk_cell hr1 9
  have t10 : W1.cell? ⟨w.heap.size, 10, none⟩ = some (.slice none 0 0) := blk_cell hr1 10
  have zt0 := blk_frozen hr1 0
  have zt1 := blk_frozen hr1 1
  have zt2 := blk_frozen hr1 2
  have zt3 := blk_frozen hr1 3
  have zt4 := blk_frozen hr1 4
  have zt5 := blk_frozen hr1 5
  have zt6 := blk_frozen hr1 6
  have zt7 := blk_frozen hr1 7
  have zt8 := blk_frozen hr1 8
  have zt9 := blk_frozen hr1 9
  have zt10 := blk_frozen hr1 10
  clear hr1 hb2
  go_wp2
  obtain ⟨W9, hW9⟩ : ∃ W9, W9 = (((((((((((W1.setCell ⟨w.heap.size, 0, none⟩ (.int .i64 0)).setCell ⟨w.heap.size, 1, none⟩ (.int .u64 0)).setCell ⟨w.heap.size, 2, none⟩ (.int .i64 0)).setCell ⟨w.heap.size, 3, none⟩ (.int .i64 0)).setCell ⟨w.heap.size, 4, none⟩ (.int .i64 0)).setCell ⟨w.heap.size, 5, none⟩ (.int .i64 0)).setCell ⟨w.heap.size, 6, none⟩ (.int .u64 0)).setCell ⟨w.heap.size, 7, none⟩ (.int .i64 0)).setCell ⟨w.heap.size, 8, none⟩ (.int .i64 0)).setCell ⟨w.heap.size, 9, none⟩ (.int .i64 0)).setCell ⟨w.heap.size, 10, none⟩ (.slice none 0 0)) := ⟨_, rfl⟩
  rw [← hW9]
  have hr9 : W9.heap[w.heap.size]? = some (.cells (celA cel0 none 0) 27 (0, 0)) := by rw [hW9]; exact putCell_at (x := cel0) (A := none) (c := 0) HQ.out.1
  have hb9 : Below w.heap.size w W9 := by rw [hW9]; exact putCell_below (x := cel0) (A := none) (c := 0) HQ.out.2 (Nat.le_refl _)
  clear hW9 t0 t1 t2 t3 t4 t5 t6 t7 t8 t9 t10
  have t0 : W9.cell? ⟨w.heap.size, 0, none⟩ = some (.int .i64 0) := blk_cell hr9 0
  have t1 : W9.cell? ⟨w.heap.size, 1, none⟩ = some (.int .u64 0) := blk_cell hr9 1
  have t2 : W9.cell? ⟨w.heap.size, 2, none⟩ = some (.int .i64 0) := blk_cell hr9 2
  have t3 : W9.cell? ⟨w.heap.size, 3, none⟩ = some (.int .i64 0) := blk_cell hr9 3
  have t4 : W9.cell? ⟨w.heap.size, 4, none⟩ = some (.int .i64 0) := blk_cell hr9 4
  have t5 : W9.cell? ⟨w.heap.size, 5, none⟩ = some (.int .i64 0) := blk_cell hr9 5
  have t6 : W9.cell? ⟨w.heap.size, 6, none⟩ = some (.int .u64 0) := blk_cell hr9 6
  have t7 : W9.cell? ⟨w.heap.size, 7, none⟩ = some (.int .i64 0) := blk_cell hr9 7
  have t8 : W9.cell? ⟨w.heap.size, 8, none⟩ = some (.int .i64 0) := blk_cell hr9 8
  have t9 : W9.cell? ⟨w.heap.size, 9, none⟩ = some (.int .i64 0) := blk_cell hr9 9
  have t10 : W9.cell? ⟨w.heap.size, 10, none⟩ = some (.slice none 0 0) := blk_cell hr9 10
  refine bodyPost_ret (v := .tuple #[.agg (celA cel0 none 0), .int .i64 0, .int .i64 3]) (by simp [results, Try.results22, go_sem, cel0, t0, t1, t2, t3, t4, t5, t6, t7, t8, t9, t10]) rfl ?_
  exact ⟨⟨none, 0, rfl, RdB_nil _⟩, hb9⟩
theorem refdec_any (A : Option Addr) (c : Nat) (b : List Int) (w : World) (hr : RdB w A b) (hc : b.length ≤ c) (hy : Byt b) (hl : b.length ≤ 1000) :
    Calls Try.prog 22 #[.slice A b.length c] w fun e w' => RDecd w w' e (rdecS b) := by
  by_cases h0 : b.length = 0
  · have he : rdecS b = (cel0, 0, 14) := by simp [rdecS, decS, h0]
    rw [he, h0]
    exact refdec_empty A c w
  cases hK : hasKind (gv b 0 1) with
  | false =>
    have he : rdecS b = (cel0, 0, 3) := by simp [rdecS, decS, h0, hK]
    rw [he]
    exact refdec_no A c b w hr hc hy h0 (of_decide_eq_false hK)
  | true =>
    have hkk := of_decide_eq_true hK
    have g1 : decide (gv b 0 1 < 1) = false := decide_eq_false (by omega)
    have g8 : decide (8 < gv b 0 1) = false := decide_eq_false (by omega)
    have hw := cell_wf hy
    have he : ∀ n, totalS b = n → rdecS b = if b.length < n then (cel0, 0, 14) else if rightB (cellOf b) then (cellOf b, ((n : Nat) : Int), 0) else (cel0, 0, 3) := fun n hn => by
      unfold rdecS
      rw [decS, if_neg h0, if_neg (by rw [hK]; simp), hn]
      by_cases h1 : b.length < n
      · simp [h1]
      · by_cases h2 : rightB (cellOf b) = true
        · simp [h1, h2]
        · simp [h1, h2]
    rcases kind_six hK with ⟨h1, h2, h3, h4⟩ | ⟨h1, h2, h3, h4⟩ | ⟨h1, h2, h3, h4⟩ | ⟨h1, h2, h3, h4⟩ | ⟨h1, h2, h3, h4⟩ | ⟨h1, h2, h3, h4⟩
    · have hoR : offR (gv b 0 1) = 11 := by simp only [offR, h1, h2, h3, h4, if_true, Bool.false_eq_true, if_false]
      have hoM : offM (gv b 0 1) = 13 := by simp only [offM, hoR, h1, h2, h3, h4, if_true, Bool.false_eq_true, if_false]
      have hoB : offB (gv b 0 1) = 13 := by simp only [offB, hoM, h1, h2, h3, h4, if_true, Bool.false_eq_true, if_false]
      have hnd : needS (gv b 0 1) = 14 := by simp only [needS, hoB, h1, h2, h3, h4, if_true, Bool.false_eq_true, if_false]
      obtain ⟨nb, hnb⟩ := Int.eq_ofNat_of_zero_le (gv_range hy 13 1).1
      have hnb2 : nb ≤ 255 := by have := (gv_range hy 13 1).2; omega
      have hT : totalS b = 14 + nb := by simp only [totalS, hnd, hoB, hnb, h1, h2, h3, h4, if_true, Bool.false_eq_true, if_false, Int.toNat_natCast]
      rw [he _ hT]
      by_cases hlt : b.length < 14 + nb
      · rw [if_pos hlt]
        exact refdec_prb A c b w hr hc hy hl h0 ⟨h1, h2, h3, h4⟩ g1 g8 nb ⟨hnb, hnb2⟩ _ ⟨rfl⟩ ⟨⟨(cell_wf hy).1, by have := (cell_wf hy).2.1; simp only [cellOf, hoR, h2, if_true] at this; exact this, tk_byt hy _ _⟩⟩ _ ⟨by rw [if_pos hlt]⟩
      · have hx : cellOf b = ⟨gv b 0 1, gv b 1 2, gv b 3 4, gv b 7 1, gv b 8 1, gv b 9 2, gv b 11 2, 0, 0, 0, tk b 14 nb⟩ := by simp only [cellOf, hoR, hoM, hoB, hnd, hnb, tk, h1, h2, h3, h4, if_true, Bool.false_eq_true, if_false, Int.toNat_natCast]; rw [if_pos (by omega)]
        exact refdec_prb A c b w hr hc hy hl h0 ⟨h1, h2, h3, h4⟩ g1 g8 nb ⟨hnb, hnb2⟩ _ ⟨hx⟩ ⟨hw⟩ _ ⟨rfl⟩
    · have hoR : offR (gv b 0 1) = 11 := by simp only [offR, h1, h2, h3, h4, if_true, Bool.false_eq_true, if_false]
      have hoM : offM (gv b 0 1) = 13 := by simp only [offM, hoR, h1, h2, h3, h4, if_true, Bool.false_eq_true, if_false]
      have hoB : offB (gv b 0 1) = 13 := by simp only [offB, hoM, h1, h2, h3, h4, if_true, Bool.false_eq_true, if_false]
      have hnd : needS (gv b 0 1) = 13 := by simp only [needS, hoB, h1, h2, h3, h4, if_true, Bool.false_eq_true, if_false]
      have hT : totalS b = 13 := by simp only [totalS, hnd, h1, h2, h3, h4, if_true, Bool.false_eq_true, if_false, Nat.add_zero]
      rw [he _ hT]
      have hx : cellOf b = ⟨gv b 0 1, gv b 1 2, gv b 3 4, gv b 7 1, gv b 8 1, gv b 9 2, gv b 11 2, 0, 0, 0, []⟩ := by simp only [cellOf, hoR, hoM, hoB, h1, h2, h3, h4, if_true, Bool.false_eq_true, if_false]
      exact refdec_pr A c b w hr hc hy hl h0 ⟨h1, h2, h3, h4⟩ g1 g8 0 ⟨rfl⟩ _ ⟨hx⟩ ⟨hw⟩ _ ⟨rfl⟩
    · have hoR : offR (gv b 0 1) = 11 := by simp only [offR, h1, h2, h3, h4, if_true, Bool.false_eq_true, if_false]
      have hoM : offM (gv b 0 1) = 11 := by simp only [offM, hoR, h1, h2, h3, h4, if_true, Bool.false_eq_true, if_false]
      have hoB : offB (gv b 0 1) = 11 := by simp only [offB, hoM, h1, h2, h3, h4, if_true, Bool.false_eq_true, if_false]
      have hnd : needS (gv b 0 1) = 11 := by simp only [needS, hoB, h1, h2, h3, h4, if_true, Bool.false_eq_true, if_false]
      have hT : totalS b = 11 := by simp only [totalS, hnd, h1, h2, h3, h4, if_true, Bool.false_eq_true, if_false, Nat.add_zero]
      rw [he _ hT]
      have hx : cellOf b = ⟨gv b 0 1, gv b 1 2, gv b 3 4, gv b 7 1, gv b 8 1, gv b 9 2, 0, 0, 0, 0, []⟩ := by simp only [cellOf, hoR, hoM, hoB, h1, h2, h3, h4, if_true, Bool.false_eq_true, if_false]
      exact refdec_p A c b w hr hc hy hl h0 ⟨h1, h2, h3, h4⟩ g1 g8 0 ⟨rfl⟩ _ ⟨hx⟩ ⟨hw⟩ _ ⟨rfl⟩
    · have hoR : offR (gv b 0 1) = 7 := by simp only [offR, h1, h2, h3, h4, if_true, Bool.false_eq_true, if_false]
      have hoM : offM (gv b 0 1) = 9 := by simp only [offM, hoR, h1, h2, h3, h4, if_true, Bool.false_eq_true, if_false]
      have hoB : offB (gv b 0 1) = 21 := by simp only [offB, hoM, h1, h2, h3, h4, if_true, Bool.false_eq_true, if_false]
      have hnd : needS (gv b 0 1) = 21 := by simp only [needS, hoB, h1, h2, h3, h4, if_true, Bool.false_eq_true, if_false]
      have hT : totalS b = 21 := by simp only [totalS, hnd, h1, h2, h3, h4, if_true, Bool.false_eq_true, if_false, Nat.add_zero]
      rw [he _ hT]
      have hx : cellOf b = ⟨gv b 0 1, gv b 1 2, gv b 3 4, 0, 0, 0, gv b 7 2, gv b 9 4, gv b 13 4, gv b 17 4, []⟩ := by simp only [cellOf, hoR, hoM, hoB, h1, h2, h3, h4, if_true, Bool.false_eq_true, if_false]
      exact refdec_rm A c b w hr hc hy hl h0 ⟨h1, h2, h3, h4⟩ g1 g8 0 ⟨rfl⟩ _ ⟨hx⟩ ⟨hw⟩ _ ⟨rfl⟩
    · have hoR : offR (gv b 0 1) = 7 := by simp only [offR, h1, h2, h3, h4, if_true, Bool.false_eq_true, if_false]
      have hoM : offM (gv b 0 1) = 9 := by simp only [offM, hoR, h1, h2, h3, h4, if_true, Bool.false_eq_true, if_false]
      have hoB : offB (gv b 0 1) = 9 := by simp only [offB, hoM, h1, h2, h3, h4, if_true, Bool.false_eq_true, if_false]
      have hnd : needS (gv b 0 1) = 9 := by simp only [needS, hoB, h1, h2, h3, h4, if_true, Bool.false_eq_true, if_false]
      have hT : totalS b = 9 := by simp only [totalS, hnd, h1, h2, h3, h4, if_true, Bool.false_eq_true, if_false, Nat.add_zero]
      rw [he _ hT]
      have hx : cellOf b = ⟨gv b 0 1, gv b 1 2, gv b 3 4, 0, 0, 0, gv b 7 2, 0, 0, 0, []⟩ := by simp only [cellOf, hoR, hoM, hoB, h1, h2, h3, h4, if_true, Bool.false_eq_true, if_false]
      exact refdec_r A c b w hr hc hy hl h0 ⟨h1, h2, h3, h4⟩ g1 g8 0 ⟨rfl⟩ _ ⟨hx⟩ ⟨hw⟩ _ ⟨rfl⟩
    · have hoR : offR (gv b 0 1) = 7 := by simp only [offR, h1, h2, h3, h4, if_true, Bool.false_eq_true, if_false]
      have hoM : offM (gv b 0 1) = 7 := by simp only [offM, hoR, h1, h2, h3, h4, if_true, Bool.false_eq_true, if_false]
      have hoB : offB (gv b 0 1) = 7 := by simp only [offB, hoM, h1, h2, h3, h4, if_true, Bool.false_eq_true, if_false]
      have hnd : needS (gv b 0 1) = 7 := by simp only [needS, hoB, h1, h2, h3, h4, if_true, Bool.false_eq_true, if_false]
      have hT : totalS b = 7 := by simp only [totalS, hnd, h1, h2, h3, h4, if_true, Bool.false_eq_true, if_false, Nat.add_zero]
      rw [he _ hT]
      have hx : cellOf b = ⟨gv b 0 1, gv b 1 2, gv b 3 4, 0, 0, 0, 0, 0, 0, 0, []⟩ := by simp only [cellOf, hoR, hoM, hoB, h1, h2, h3, h4, if_true, Bool.false_eq_true, if_false]
      exact refdec_n A c b w hr hc hy hl h0 ⟨h1, h2, h3, h4⟩ g1 g8 0 ⟨rfl⟩ _ ⟨hx⟩ ⟨hw⟩ _ ⟨rfl⟩
theorem dec_rest {b r : List Int} {c : Cel} (h : decS b = (c, r, 0)) : r = b.drop (totalS b) ∧ totalS b ≤ b.length := by
  unfold decS at h
  split at h
  · simp at h
  split at h
  · simp at h
  split at h
  · simp at h
  split at h
  · rename_i h1 h2 h3 h4
    simp only [Prod.mk.injEq] at h
    exact ⟨h.2.1.symm, by omega⟩
  · simp at h
def tabZ9 : Bool × List (List Nat × List Nat) := (true, [([], []), ([0], [0]), ([1], [1]), ([2], [2]), ([3, 2], [2, 3]), ([4, 2], [2, 4]), ([2, 5], [2, 5]), ([6, 2], [6]), ([7], [7]), ([8, 7], [7, 8]), ([9, 7, 7], [7, 9]), ([10], [10]), ([11, 10], [10, 11]), ([10], [10]), ([10], [10]), ([13, 14, 10], [10, 13, 14]), ([15, 10], [10, 15]), ([12, 16, 10], [10, 12, 16]), ([10, 17, 7], [7, 10, 17]), ([7, 18], [7, 18]), ([19, 10, 0, 1, 2, 3, 4, 5, 6, 7, 8, 9, 10, 11, 12, 13, 14, 15, 16, 17, 18, 19], [19])])
theorem tabZ9_ok : rtab .any (opsOf Try.f7 9) = tabZ9 := by kernel_rfl
set_option maxHeartbeats 6400000 in
set_option maxRecDepth 100000 in
theorem decodes_law (A : Option Addr) (c : Nat) (b : List Int) (w : World) (hr : RdB w A b) (hc : b.length ≤ c) (hy : Byt b) :
    Calls Try.prog 7 #[.slice A b.length c] w fun e w' => e = .returned (.bool true) ∧ Below w.heap.size w w' := by
  have hmx := C_max hr
  have HR := Aside0.mk hr
  have HC := Aside0.mk hc
  have HY := Aside0.mk hy
  clear hr hc hy
  have HB := Aside0.mk (Below.refl w.heap.size w)
  by_cases hlen : 300 < b.length
  · have g0 : decide (300 < (b.length : Int)) = true := decide_eq_true (by omega)
    go_enter Try.func7, Try.ntmps7
    go_wp2_with (go_at_call 12; refine (awake_any _).mono ?_; rintro e w1 ⟨rfl, hb⟩; clear HB; have HB := Aside0.mk hb; clear hb)
    go_ret
    exact ⟨rfl, HB.out⟩
  have g0 : decide (300 < (b.length : Int)) = false := decide_eq_false (by omega)
  have hb300 : b.length ≤ 300 := by omega
  clear hlen
  obtain ⟨r, hr⟩ : ∃ r, r = decS b := ⟨_, rfl⟩
  obtain ⟨x, rest, er⟩ := r
  have HDE := Aside0.mk hr.symm
  obtain ⟨rn, hrn⟩ : ∃ rn : Int, rn = if er = 0 then ((totalS b : Nat) : Int) else 0 := ⟨_, rfl⟩
  have HRD := Aside0.mk (show rdecS b = (x, rn, er) by rw [rdecS, ← hr, hrn])
  have HRN := Aside0.mk hrn
  have HBX := Aside0.mk (show Byt x.body by
    by_cases he : er = 0
    · subst he; exact CelWf.byt' (dec_inv HY.out hr.symm).2.1
    · obtain ⟨rfl, _, _⟩ := dec_none hr.symm he; exact Byt.nil)
  obtain ⟨m4, hm4⟩ : ∃ m, m = rest.length := ⟨_, rfl⟩
  have HM4 := Aside0.mk hm4
  clear hr hrn hm4
  go_enter Try.func7, Try.ntmps7
  go_upto_region 6 with (first
    | (go_at_call 12; refine (awake_any _).mono ?_; rintro e w1 ⟨rfl, hb⟩; clear HB; have HB := Aside0.mk hb; clear hb)
    | (go_at_call 21; go_must (refine (decode_any A c b _ (Kd.C_below HR.out HB.out) HC.out HY.out (by omega)).mono ?_; rintro e y2 hd; rw [HDE.out] at hd; obtain ⟨⟨A1, k1, A4, k4, rfl, ho, hr4, hk4⟩, hb⟩ := hd; simp only at ho hr4 hk4 ⊢; have HR1 := Aside0.mk (Ow_rd ho).2.2; rw [← HM4.out]; have HR4 := Aside0.mk (show Kd.C (Kd.int .u8) y2 A4 m4 rest by rw [HM4.out]; exact Kd.C_below hr4 hb); replace HB := Aside0.mk (HB.out.trans (hb.mono HB.out.size)); clear hb ho hr4 hk4)))
  obtain ⟨w3, hw3⟩ : ∃ w3, w3 = y2.alloc (.cells (celA x A1 k1) 27) := ⟨_, rfl⟩
  rw [← hw3]
  have hb : Below y2.heap.size y2 w3 := by rw [hw3]; exact below_alloc (Below.refl _ _) _
  have HD := Aside0.mk (show w3.heap[y2.heap.size]? = some (.cells (celA x A1 k1) 27 (0, 0)) by rw [hw3]; exact blk_new _ _)
  replace HR1 := Aside0.mk (Kd.C_below HR1.out hb)
  replace HR4 := Aside0.mk (Kd.C_below HR4.out hb)
  replace HB := Aside0.mk (HB.out.trans (hb.mono HB.out.size));
  clear hw3 hb
  go_upto_region 7 with (go_at_call 22; go_must (refine (refdec_any A c b _ (Kd.C_below HR.out HB.out) HC.out HY.out (by omega)).mono ?_; rintro e y5 hd; rw [HRD.out] at hd; obtain ⟨⟨A5, k5, rfl, hr5⟩, hb⟩ := hd; simp only at hr5 ⊢; have HR5 := Aside0.mk hr5; replace HR1 := Aside0.mk (Kd.C_below HR1.out hb); replace HR4 := Aside0.mk (Kd.C_below HR4.out hb); replace HD := Aside0.mk ((hb.block _ (blk_lt HD.out)).trans HD.out); replace HB := Aside0.mk (HB.out.trans (hb.mono HB.out.size)); clear hb hr5))
  obtain ⟨w6, hw6⟩ : ∃ w6, w6 = y5.alloc (.cells (celA x A5 k5) 27) := ⟨_, rfl⟩
  rw [← hw6]
  have hb : Below y5.heap.size y5 w6 := by rw [hw6]; exact below_alloc (Below.refl _ _) _
  have hd5 : w6.heap[y5.heap.size]? = some (.cells (celA x A5 k5) 27 (0, 0)) := by rw [hw6]; exact blk_new _ _
  replace HR1 := Aside0.mk (Kd.C_below HR1.out hb)
  replace HR4 := Aside0.mk (Kd.C_below HR4.out hb)
  replace HR5 := Aside0.mk (Kd.C_below HR5.out hb)
  have hdb := (hb.block _ (blk_lt HD.out)).trans HD.out
  replace HB := Aside0.mk (HB.out.trans (hb.mono HB.out.size));
  obtain ⟨c0, c1, c2, c3, c4, c5, c6, c7, c8, c9⟩ := cel_at (x := x) (A := A1) (c := k1) hdb; have c10 : w6.cell? ⟨y2.heap.size, 10, none⟩ = some (.slice A1 x.body.length k1) := blk_cell hdb 10
  obtain ⟨d0, d1, d2, d3, d4, d5, d6, d7, d8, d9⟩ := cel_at (x := x) (A := A5) (c := k5) hd5; have d10 : w6.cell? ⟨y5.heap.size, 10, none⟩ = some (.slice A5 x.body.length k5) := blk_cell hd5 10
  clear hw6 hb hdb hd5
  go_upto_region 9 with (go_at_call 17; go_must (refine (refsame_any x x A1 A5 k1 k5 _ HR1.out HR5.out HBX.out HBX.out).mono ?_; rintro e y7 ⟨rfl, hb⟩; rw [sameB_self x]; replace HR4 := Aside0.mk (Kd.C_below HR4.out hb); replace HB := Aside0.mk (HB.out.trans (hb.mono HB.out.size)); clear hb))
  clear c0 c1 c2 c3 c4 c5 c6 c7 c8 c9 c10 d0 d1 d2 d3 d4 d5 d6 d7 d8 d9 d10
  have HRB := Aside0.mk (Kd.C_below HR.out HB.out)
  by_cases he : er = 0
  · have f1 : (er == 0) = true := beq_iff_eq.2 he
    have f2 : (er != 0) = false := bne_eq_false_iff_eq.2 he
    obtain ⟨hd1, hd2⟩ := dec_rest (he ▸ HDE.out)
    have hrn : rn = ((totalS b : Nat) : Int) := by rw [HRN.out, if_pos he]
    obtain ⟨A9, q9, r9⟩ := cutFrom HRB.out HC.out (totalS b) hd2 .i64
    rw [← hd1] at r9
    rw [← hrn] at q9
    have hl9 : b.length - totalS b = m4 := by rw [HM4.out, hd1, List.length_drop]
    rw [hl9] at q9 r9
    have HR9 := Aside0.mk r9
    clear hd1 hd2 hrn he hl9 r9
    go_wp2_with (fail)
    refine start_ (n := 21) (S := fun w' => Kd.C (Kd.int .u8) w' A4 m4 rest ∧ Kd.C (Kd.int .u8) w' A9 m4 rest) (ds := []) #[false, false, false, false, false, false, false, false, false, false, false, false, false, false, false, false, false, false, false, false, false] (by kernel_rfl) rfl rfl ⟨Kd.C_below HR4.out (below_drew (Below.refl _ _)), Kd.C_below HR9.out (below_drew (Below.refl _ _))⟩ (fun hHeld => ?_); refine with_tab tabZ9_ok (fun HT_ => ?_)
    have hb : Below y7.heap.size y7 y7.drew := below_drew (Below.refl _ _)
    replace HB := Aside0.mk (HB.out.trans (hb.mono HB.out.size))
    clear hb
    refine pure_ (i := 0) (N := some 35) (v := ?_) (a' := ?_) #[true, false, false, false, false, false, false, false, false, false, false, false, false, false, false, false, false, false, false, false, false] rfl rfl (any_of HT_.out (by kernel_rfl)) (fun _ _ _ h => h) (Or.inl ⟨by rfl, ?_⟩) ?_ ?_
    rotate_left
    · intro w'
      go_simp
      with_reducible rfl
    rotate_left
    · simp only [Act.put, List.setIfInBounds_toArray, List.set_cons_zero, List.set_cons_succ]
      rfl
    refine pure_ (i := 1) (N := some 36) (v := (.bool false)) (a' := ?_) #[true, true, false, false, false, false, false, false, false, false, false, false, false, false, false, false, false, false, false, false, false] rfl rfl (any_of HT_.out (by kernel_rfl)) (fun _ _ _ h => h) (Or.inl ⟨by rfl, ?_⟩) ?_ ?_
    · intro w'
      go_simp
      first | done | exact f2 | rfl | (simp [f2]; done) | (simp; done) | trace_state
    rotate_left
    · simp only [Act.put, List.setIfInBounds_toArray, List.set_cons_zero, List.set_cons_succ]
      rfl
    refine pure_ (i := 2) (N := some 37) (v := ?_) (a' := ?_) #[true, true, true, false, false, false, false, false, false, false, false, false, false, false, false, false, false, false, false, false, false] rfl rfl (any_of HT_.out (by kernel_rfl)) (fun _ _ _ h => h) (Or.inl ⟨by rfl, ?_⟩) ?_ ?_
    rotate_left
    · intro w'
      go_simp
      with_reducible rfl
    rotate_left
    · simp only [Act.put, List.setIfInBounds_toArray, List.set_cons_zero, List.set_cons_succ]
      rfl
    refine pure_ (i := 3) (N := some 38) (v := undef) (a' := ?_) #[true, true, true, true, false, false, false, false, false, false, false, false, false, false, false, false, false, false, false, false, false] rfl rfl (any_of HT_.out (by kernel_rfl)) (fun _ _ _ h => h) (Or.inr ⟨by rfl, rfl⟩) ?_ ?_
    rotate_left
    · simp only [Act.put, List.setIfInBounds_toArray, List.set_cons_zero, List.set_cons_succ]
      rfl
    refine pure_ (i := 4) (N := some 39) (v := undef) (a' := ?_) #[true, true, true, true, true, false, false, false, false, false, false, false, false, false, false, false, false, false, false, false, false] rfl rfl (any_of HT_.out (by kernel_rfl)) (fun _ _ _ h => h) (Or.inr ⟨by rfl, rfl⟩) ?_ ?_
    rotate_left
    · simp only [Act.put, List.setIfInBounds_toArray, List.set_cons_zero, List.set_cons_succ]
      rfl
    refine pure_ (i := 5) (N := some 40) (v := undef) (a' := ?_) #[true, true, true, true, true, true, false, false, false, false, false, false, false, false, false, false, false, false, false, false, false] rfl rfl (any_of HT_.out (by kernel_rfl)) (fun _ _ _ h => h) (Or.inr ⟨by rfl, rfl⟩) ?_ ?_
    rotate_left
    · simp only [Act.put, List.setIfInBounds_toArray, List.set_cons_zero, List.set_cons_succ]
      rfl
    refine pure_ (i := 6) (N := some 41) (v := ?_) (a' := ?_) #[true, true, true, true, true, true, true, false, false, false, false, false, false, false, false, false, false, false, false, false, false] rfl rfl (any_of HT_.out (by kernel_rfl)) (fun _ _ _ h => h) (Or.inl ⟨by rfl, ?_⟩) ?_ ?_
    rotate_left
    · intro w'
      go_simp
      with_reducible rfl
    rotate_left
    · simp only [Act.put, List.setIfInBounds_toArray, List.set_cons_zero, List.set_cons_succ]
      rfl
    refine pure_ (i := 7) (N := some 42) (v := ?_) (a' := ?_) #[true, true, true, true, true, true, true, true, false, false, false, false, false, false, false, false, false, false, false, false, false] rfl rfl (any_of HT_.out (by kernel_rfl)) (fun _ _ _ h => h) (Or.inl ⟨by rfl, ?_⟩) ?_ ?_
    rotate_left
    · intro w'
      go_simp
      with_reducible rfl
    rotate_left
    · simp only [Act.put, List.setIfInBounds_toArray, List.set_cons_zero, List.set_cons_succ]
      rfl
    refine pure_ (i := 8) (N := some 43) (v := ?_) (a' := ?_) #[true, true, true, true, true, true, true, true, true, false, false, false, false, false, false, false, false, false, false, false, false] rfl rfl (any_of HT_.out (by kernel_rfl)) (fun _ _ _ h => h) (Or.inl ⟨by rfl, ?_⟩) ?_ ?_
    rotate_left
    · intro w'
      go_simp
      with_reducible rfl
    rotate_left
    · simp only [Act.put, List.setIfInBounds_toArray, List.set_cons_zero, List.set_cons_succ]
      rfl
    refine pure_ (i := 9) (N := some 44) (v := (.bool true)) (a' := ?_) #[true, true, true, true, true, true, true, true, true, true, false, false, false, false, false, false, false, false, false, false, false] rfl rfl (any_of HT_.out (by kernel_rfl)) (fun _ _ _ h => h) (Or.inl ⟨by rfl, ?_⟩) ?_ ?_
    · intro w'
      go_simp
      first | done | exact f1 | rfl | (simp [f1]; done) | (simp; done) | trace_state
    rotate_left
    · simp only [Act.put, List.setIfInBounds_toArray, List.set_cons_zero, List.set_cons_succ]
      rfl
    refine pure_ (i := 10) (N := some 45) (v := ?_) (a' := ?_) #[true, true, true, true, true, true, true, true, true, true, true, false, false, false, false, false, false, false, false, false, false] rfl rfl (any_of HT_.out (by kernel_rfl)) (fun _ _ _ h => h) (Or.inl ⟨by rfl, ?_⟩) ?_ ?_
    rotate_left
    · intro w'
      go_simp
      with_reducible rfl
    rotate_left
    · simp only [Act.put, List.setIfInBounds_toArray, List.set_cons_zero, List.set_cons_succ]
      rfl
    refine pure_ (i := 11) (N := some 46) (v := ?_) (a' := ?_) #[true, true, true, true, true, true, true, true, true, true, true, true, false, false, false, false, false, false, false, false, false] rfl rfl (any_of HT_.out (by kernel_rfl)) (fun _ _ _ h => h) (Or.inl ⟨by rfl, ?_⟩) ?_ ?_
    rotate_left
    · intro w'
      go_simp
      with_reducible rfl
    rotate_left
    · simp only [Act.put, List.setIfInBounds_toArray, List.set_cons_zero, List.set_cons_succ]
      rfl
    refine take_ (i := 12) (N := some 47) (v := ?_) (a' := ?_) #[true, true, true, true, true, true, true, true, true, true, true, true, true, false, false, false, false, false, false, false, false] rfl rfl (take_of HT_.out (by kernel_rfl)) (fun _ _ _ h => h) (Or.inl ⟨by rfl, ?_⟩) hHeld ?_ ?_
    rotate_left
    · intro w' hw'
      obtain ⟨s0, s1⟩ := hw'; have hs := Kd.C_string (P := Try.prog) (c := k4) Try.underlying25 Try.underlying5 Try.underlying9 s0; try rw [← HM4.out] at hs
      go_simp
      with_reducible rfl
    rotate_left
    · simp only [Act.put, List.setIfInBounds_toArray, List.set_cons_zero, List.set_cons_succ]
      rfl
    refine pure_ (i := 13) (N := some 48) (v := ?_) (a' := ?_) #[true, true, true, true, true, true, true, true, true, true, true, true, true, true, false, false, false, false, false, false, false] rfl rfl (any_of HT_.out (by kernel_rfl)) (fun _ _ _ h => h) (Or.inl ⟨by rfl, ?_⟩) ?_ ?_
    rotate_left
    · intro w'
      go_simp
      with_reducible rfl
    rotate_left
    · simp only [Act.put, List.setIfInBounds_toArray, List.set_cons_zero, List.set_cons_succ]
      rfl
    refine pure_ (i := 14) (N := some 49) (v := ?_) (a' := ?_) #[true, true, true, true, true, true, true, true, true, true, true, true, true, true, true, false, false, false, false, false, false] rfl rfl (any_of HT_.out (by kernel_rfl)) (fun _ _ _ h => h) (Or.inl ⟨by rfl, ?_⟩) ?_ ?_
    rotate_left
    · intro w'
      go_simp
      with_reducible rfl
    rotate_left
    · simp only [Act.put, List.setIfInBounds_toArray, List.set_cons_zero, List.set_cons_succ]
      rfl
    refine pure_ (i := 15) (N := some 50) (v := ?_) (a' := ?_) #[true, true, true, true, true, true, true, true, true, true, true, true, true, true, true, true, false, false, false, false, false] rfl rfl (any_of HT_.out (by kernel_rfl)) (fun _ _ _ h => h) (Or.inl ⟨by rfl, ?_⟩) ?_ ?_
    rotate_left
    · intro w'
      go_simp
      with_reducible rfl
    rotate_left
    · simp only [Act.put, List.setIfInBounds_toArray, List.set_cons_zero, List.set_cons_succ]
      rfl
    refine take_ (i := 16) (N := some 51) (v := ?_) (a' := ?_) #[true, true, true, true, true, true, true, true, true, true, true, true, true, true, true, true, true, false, false, false, false] rfl rfl (take_of HT_.out (by kernel_rfl)) (fun _ _ _ h => h) (Or.inl ⟨by rfl, ?_⟩) hHeld ?_ ?_
    rotate_left
    · intro w' hw'
      obtain ⟨s0, s1⟩ := hw'; have hs := Kd.C_string (P := Try.prog) (c := (c - totalS b)) Try.underlying25 Try.underlying5 Try.underlying9 s1; try rw [← HM4.out] at hs
      go_simp
      with_reducible rfl
    rotate_left
    · simp only [Act.put, List.setIfInBounds_toArray, List.set_cons_zero, List.set_cons_succ]
      rfl
    refine pure_ (i := 17) (N := some 52) (v := (.bool true)) (a' := ?_) #[true, true, true, true, true, true, true, true, true, true, true, true, true, true, true, true, true, true, false, false, false] rfl rfl (any_of HT_.out (by kernel_rfl)) (fun _ _ _ h => h) (Or.inl ⟨by rfl, ?_⟩) ?_ ?_
    · intro w'
      go_simp
      first | done | exact rfl | rfl | (simp [rfl]; done) | (simp; done) | trace_state
    rotate_left
    · simp only [Act.put, List.setIfInBounds_toArray, List.set_cons_zero, List.set_cons_succ]
      rfl
    refine pure_ (i := 18) (N := some 53) (v := ?_) (a' := ?_) #[true, true, true, true, true, true, true, true, true, true, true, true, true, true, true, true, true, true, true, false, false] rfl rfl (any_of HT_.out (by kernel_rfl)) (fun _ _ _ h => h) (Or.inl ⟨by rfl, ?_⟩) ?_ ?_
    rotate_left
    · intro w'
      go_simp
      with_reducible rfl
    rotate_left
    · simp only [Act.put, List.setIfInBounds_toArray, List.set_cons_zero, List.set_cons_succ]
      rfl
    refine pure_ (i := 19) (N := some 54) (v := ?_) (a' := ?_) #[true, true, true, true, true, true, true, true, true, true, true, true, true, true, true, true, true, true, true, true, false] rfl rfl (any_of HT_.out (by kernel_rfl)) (fun _ _ _ h => h) (Or.inl ⟨by rfl, ?_⟩) ?_ ?_
    rotate_left
    · intro w'
      go_simp
      with_reducible rfl
    rotate_left
    · simp only [Act.put, List.setIfInBounds_toArray, List.set_cons_zero, List.set_cons_succ]
      rfl
    refine pure_ (i := 20) (N := some 2) (v := ?_) (a' := ?_) #[true, true, true, true, true, true, true, true, true, true, true, true, true, true, true, true, true, true, true, true, true] rfl rfl (any_of HT_.out (by kernel_rfl)) (fun _ _ _ h => h) (Or.inl ⟨by rfl, ?_⟩) ?_ ?_
    rotate_left
    · intro w'
      go_simp
      with_reducible rfl
    rotate_left
    · simp only [Act.put, List.setIfInBounds_toArray, List.set_cons_zero, List.set_cons_succ]
      rfl
    refine done_ (done_of HT_.out (by kernel_rfl)) ?_
    clear HT_ hHeld
    go_wp2
    go_ret
    exact ⟨rfl, HB.out⟩
  · have f1 : (er == 0) = false := beq_eq_false_iff_ne.2 he
    have f2 : (er != 0) = true := bne_iff_ne.2 he
    have hm0 : m4 = 0 := by rw [HM4.out, (dec_none HDE.out he).2.1]; rfl
    subst hm0
    clear he
    go_wp2_with (fail)
    refine start_ (n := 21) (S := fun w' => True) (ds := []) #[false, false, false, false, false, false, false, false, false, false, false, false, false, false, false, false, false, false, false, false, false] (by kernel_rfl) rfl rfl trivial (fun hHeld => ?_); refine with_tab tabZ9_ok (fun HT_ => ?_)
    have hb : Below y7.heap.size y7 y7.drew := below_drew (Below.refl _ _)
    replace HB := Aside0.mk (HB.out.trans (hb.mono HB.out.size))
    clear hb
    refine pure_ (i := 0) (N := some 35) (v := ?_) (a' := ?_) #[true, false, false, false, false, false, false, false, false, false, false, false, false, false, false, false, false, false, false, false, false] rfl rfl (any_of HT_.out (by kernel_rfl)) (fun _ _ _ h => h) (Or.inl ⟨by rfl, ?_⟩) ?_ ?_
    rotate_left
    · intro w'
      go_simp
      with_reducible rfl
    rotate_left
    · simp only [Act.put, List.setIfInBounds_toArray, List.set_cons_zero, List.set_cons_succ]
      rfl
    refine pure_ (i := 1) (N := some 36) (v := (.bool true)) (a' := ?_) #[true, true, false, false, false, false, false, false, false, false, false, false, false, false, false, false, false, false, false, false, false] rfl rfl (any_of HT_.out (by kernel_rfl)) (fun _ _ _ h => h) (Or.inl ⟨by rfl, ?_⟩) ?_ ?_
    · intro w'
      go_simp
      first | done | exact f2 | rfl | (simp [f2]; done) | (simp; done) | trace_state
    rotate_left
    · simp only [Act.put, List.setIfInBounds_toArray, List.set_cons_zero, List.set_cons_succ]
      rfl
    refine pure_ (i := 2) (N := some 37) (v := ?_) (a' := ?_) #[true, true, true, false, false, false, false, false, false, false, false, false, false, false, false, false, false, false, false, false, false] rfl rfl (any_of HT_.out (by kernel_rfl)) (fun _ _ _ h => h) (Or.inl ⟨by rfl, ?_⟩) ?_ ?_
    rotate_left
    · intro w'
      go_simp
      with_reducible rfl
    rotate_left
    · simp only [Act.put, List.setIfInBounds_toArray, List.set_cons_zero, List.set_cons_succ]
      rfl
    refine pure_ (i := 3) (N := some 38) (v := ?_) (a' := ?_) #[true, true, true, true, false, false, false, false, false, false, false, false, false, false, false, false, false, false, false, false, false] rfl rfl (any_of HT_.out (by kernel_rfl)) (fun _ _ _ h => h) (Or.inl ⟨by rfl, ?_⟩) ?_ ?_
    rotate_left
    · intro w'
      go_simp
      with_reducible rfl
    rotate_left
    · simp only [Act.put, List.setIfInBounds_toArray, List.set_cons_zero, List.set_cons_succ]
      rfl
    refine pure_ (i := 4) (N := some 39) (v := ?_) (a' := ?_) #[true, true, true, true, true, false, false, false, false, false, false, false, false, false, false, false, false, false, false, false, false] rfl rfl (any_of HT_.out (by kernel_rfl)) (fun _ _ _ h => h) (Or.inl ⟨by rfl, ?_⟩) ?_ ?_
    rotate_left
    · intro w'
      go_simp
      with_reducible rfl
    rotate_left
    · simp only [Act.put, List.setIfInBounds_toArray, List.set_cons_zero, List.set_cons_succ]
      rfl
    refine pure_ (i := 5) (N := some 40) (v := (.bool true)) (a' := ?_) #[true, true, true, true, true, true, false, false, false, false, false, false, false, false, false, false, false, false, false, false, false] rfl rfl (any_of HT_.out (by kernel_rfl)) (fun _ _ _ h => h) (Or.inl ⟨by rfl, ?_⟩) ?_ ?_
    · intro w'
      go_simp
      first | done | exact rfl | rfl | (simp [rfl]; done) | (simp; done) | trace_state
    rotate_left
    · simp only [Act.put, List.setIfInBounds_toArray, List.set_cons_zero, List.set_cons_succ]
      rfl
    refine pure_ (i := 6) (N := some 41) (v := ?_) (a' := ?_) #[true, true, true, true, true, true, true, false, false, false, false, false, false, false, false, false, false, false, false, false, false] rfl rfl (any_of HT_.out (by kernel_rfl)) (fun _ _ _ h => h) (Or.inl ⟨by rfl, ?_⟩) ?_ ?_
    rotate_left
    · intro w'
      go_simp
      with_reducible rfl
    rotate_left
    · simp only [Act.put, List.setIfInBounds_toArray, List.set_cons_zero, List.set_cons_succ]
      rfl
    refine pure_ (i := 7) (N := some 42) (v := ?_) (a' := ?_) #[true, true, true, true, true, true, true, true, false, false, false, false, false, false, false, false, false, false, false, false, false] rfl rfl (any_of HT_.out (by kernel_rfl)) (fun _ _ _ h => h) (Or.inl ⟨by rfl, ?_⟩) ?_ ?_
    rotate_left
    · intro w'
      go_simp
      with_reducible rfl
    rotate_left
    · simp only [Act.put, List.setIfInBounds_toArray, List.set_cons_zero, List.set_cons_succ]
      rfl
    refine pure_ (i := 8) (N := some 43) (v := undef) (a' := ?_) #[true, true, true, true, true, true, true, true, true, false, false, false, false, false, false, false, false, false, false, false, false] rfl rfl (any_of HT_.out (by kernel_rfl)) (fun _ _ _ h => h) (Or.inr ⟨by rfl, rfl⟩) ?_ ?_
    rotate_left
    · simp only [Act.put, List.setIfInBounds_toArray, List.set_cons_zero, List.set_cons_succ]
      rfl
    refine pure_ (i := 9) (N := some 44) (v := undef) (a' := ?_) #[true, true, true, true, true, true, true, true, true, true, false, false, false, false, false, false, false, false, false, false, false] rfl rfl (any_of HT_.out (by kernel_rfl)) (fun _ _ _ h => h) (Or.inr ⟨by rfl, rfl⟩) ?_ ?_
    rotate_left
    · simp only [Act.put, List.setIfInBounds_toArray, List.set_cons_zero, List.set_cons_succ]
      rfl
    refine pure_ (i := 10) (N := some 45) (v := undef) (a' := ?_) #[true, true, true, true, true, true, true, true, true, true, true, false, false, false, false, false, false, false, false, false, false] rfl rfl (any_of HT_.out (by kernel_rfl)) (fun _ _ _ h => h) (Or.inr ⟨by rfl, rfl⟩) ?_ ?_
    rotate_left
    · simp only [Act.put, List.setIfInBounds_toArray, List.set_cons_zero, List.set_cons_succ]
      rfl
    refine pure_ (i := 11) (N := some 46) (v := undef) (a' := ?_) #[true, true, true, true, true, true, true, true, true, true, true, true, false, false, false, false, false, false, false, false, false] rfl rfl (any_of HT_.out (by kernel_rfl)) (fun _ _ _ h => h) (Or.inr ⟨by rfl, rfl⟩) ?_ ?_
    rotate_left
    · simp only [Act.put, List.setIfInBounds_toArray, List.set_cons_zero, List.set_cons_succ]
      rfl
    refine pure_ (i := 12) (N := some 47) (v := undef) (a' := ?_) #[true, true, true, true, true, true, true, true, true, true, true, true, true, false, false, false, false, false, false, false, false] rfl rfl (any_of HT_.out (by kernel_rfl)) (fun _ _ _ h => h) (Or.inr ⟨by rfl, rfl⟩) ?_ ?_
    rotate_left
    · simp only [Act.put, List.setIfInBounds_toArray, List.set_cons_zero, List.set_cons_succ]
      rfl
    refine pure_ (i := 13) (N := some 48) (v := undef) (a' := ?_) #[true, true, true, true, true, true, true, true, true, true, true, true, true, true, false, false, false, false, false, false, false] rfl rfl (any_of HT_.out (by kernel_rfl)) (fun _ _ _ h => h) (Or.inr ⟨by rfl, rfl⟩) ?_ ?_
    rotate_left
    · simp only [Act.put, List.setIfInBounds_toArray, List.set_cons_zero, List.set_cons_succ]
      rfl
    refine pure_ (i := 14) (N := some 49) (v := undef) (a' := ?_) #[true, true, true, true, true, true, true, true, true, true, true, true, true, true, true, false, false, false, false, false, false] rfl rfl (any_of HT_.out (by kernel_rfl)) (fun _ _ _ h => h) (Or.inr ⟨by rfl, rfl⟩) ?_ ?_
    rotate_left
    · simp only [Act.put, List.setIfInBounds_toArray, List.set_cons_zero, List.set_cons_succ]
      rfl
    refine pure_ (i := 15) (N := some 50) (v := undef) (a' := ?_) #[true, true, true, true, true, true, true, true, true, true, true, true, true, true, true, true, false, false, false, false, false] rfl rfl (any_of HT_.out (by kernel_rfl)) (fun _ _ _ h => h) (Or.inr ⟨by rfl, rfl⟩) ?_ ?_
    rotate_left
    · simp only [Act.put, List.setIfInBounds_toArray, List.set_cons_zero, List.set_cons_succ]
      rfl
    refine pure_ (i := 16) (N := some 51) (v := undef) (a' := ?_) #[true, true, true, true, true, true, true, true, true, true, true, true, true, true, true, true, true, false, false, false, false] rfl rfl (any_of HT_.out (by kernel_rfl)) (fun _ _ _ h => h) (Or.inr ⟨by rfl, rfl⟩) ?_ ?_
    rotate_left
    · simp only [Act.put, List.setIfInBounds_toArray, List.set_cons_zero, List.set_cons_succ]
      rfl
    refine pure_ (i := 17) (N := some 52) (v := undef) (a' := ?_) #[true, true, true, true, true, true, true, true, true, true, true, true, true, true, true, true, true, true, false, false, false] rfl rfl (any_of HT_.out (by kernel_rfl)) (fun _ _ _ h => h) (Or.inr ⟨by rfl, rfl⟩) ?_ ?_
    rotate_left
    · simp only [Act.put, List.setIfInBounds_toArray, List.set_cons_zero, List.set_cons_succ]
      rfl
    refine pure_ (i := 18) (N := some 53) (v := undef) (a' := ?_) #[true, true, true, true, true, true, true, true, true, true, true, true, true, true, true, true, true, true, true, false, false] rfl rfl (any_of HT_.out (by kernel_rfl)) (fun _ _ _ h => h) (Or.inr ⟨by rfl, rfl⟩) ?_ ?_
    rotate_left
    · simp only [Act.put, List.setIfInBounds_toArray, List.set_cons_zero, List.set_cons_succ]
      rfl
    refine pure_ (i := 19) (N := some 54) (v := ?_) (a' := ?_) #[true, true, true, true, true, true, true, true, true, true, true, true, true, true, true, true, true, true, true, true, false] rfl rfl (any_of HT_.out (by kernel_rfl)) (fun _ _ _ h => h) (Or.inl ⟨by rfl, ?_⟩) ?_ ?_
    rotate_left
    · intro w'
      go_simp
      with_reducible rfl
    rotate_left
    · simp only [Act.put, List.setIfInBounds_toArray, List.set_cons_zero, List.set_cons_succ]
      rfl
    refine pure_ (i := 20) (N := some 2) (v := ?_) (a' := ?_) #[true, true, true, true, true, true, true, true, true, true, true, true, true, true, true, true, true, true, true, true, true] rfl rfl (any_of HT_.out (by kernel_rfl)) (fun _ _ _ h => h) (Or.inl ⟨by rfl, ?_⟩) ?_ ?_
    rotate_left
    · intro w'
      go_simp
      with_reducible rfl
    rotate_left
    · simp only [Act.put, List.setIfInBounds_toArray, List.set_cons_zero, List.set_cons_succ]
      rfl
    refine done_ (done_of HT_.out (by kernel_rfl)) ?_
    clear HT_ hHeld
    go_wp2
    go_ret
    exact ⟨rfl, HB.out⟩
end Go.Proofs.Ytbbnjcpeikklgaa.Cell
