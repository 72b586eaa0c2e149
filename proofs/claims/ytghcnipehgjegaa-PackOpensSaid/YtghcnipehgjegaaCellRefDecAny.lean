/- What Decode of the reference of layer 12 answers, for any bytes. Conditions stand in each statement. -/
import Derived.Test.YtghcnipehgjegaaCellRefDec
namespace Go.Proofs.Ytghcnipehgjegaa.Cell
open Go.RowKit Go.Proofs.YtghcnipehgjegaaW.PrintWords Go.Proofs.YtghcnipehgjegaaW.PrintLast Go.Proofs.YtghcnipehgjegaaW.PrintMore Go.Proofs.Ytghcnipehgjegaa.Kit Go.Proofs.Ytghcnipehgjegaa.Plain Go.Proofs.Ytghcnipehgjegaa.Wire
set_option linter.unusedVariables false
set_option linter.unusedSimpArgs false
theorem CelWf.byt' {x : Cel} (h : CelWf x) : Byt x.body := by
  obtain ⟨_, _, h⟩ := h
  exact h
/-- What the reference tells of bytes. -/
def rdecS (b : List Int) : Cel × Int × Int := ((decS b).1, if (decS b).2.2 = 0 then ((totalS b : Nat) : Int) else 0, (decS b).2.2)
set_option maxHeartbeats 1600000 in
set_option maxRecDepth 100000 in
theorem refdec_empty (A : Option Addr) (c : Nat) (v w : World) :
    Calls Try.prog 28 #[.slice A 0 c] w fun e w' => RDecdV v w w' e (cel0, 0, 14) := by
  go_enter Try.func28, Try.ntmps28
  go_wp2
  refine bodyPost_ret (v := .tuple #[.agg (celA cel0 none 0), .int .i64 0, .int .i64 14]) (by simp [results, Try.results28, go_sem, cel0]) rfl ?_
  exact ⟨⟨none, 0, rfl, RdB_nil _⟩, below_alloc (Below.refl _ _) _⟩
set_option maxHeartbeats 3200000 in
set_option maxRecDepth 100000 in
theorem refdec_no (A : Option Addr) (c : Nat) (b : List Int) (v w : World) (hr : RdB w A b) (hc : b.length ≤ c) (hy : Byt b) (h00 : b.length ≠ 0) (hK : ¬ (1 ≤ gv b 0 1 ∧ gv b 0 1 ≤ 8)) :
    Calls Try.prog 28 #[.slice A b.length c] w fun e w' => RDecdV v w w' e (cel0, 0, 3) := by
  have hmx := C_max hr
  obtain ⟨ad, rfl, h0⟩ := cell_in hr 0 (by omega)
  rw [add_0] at h0
  have hg0 := gv_range hy 0 1
  have e0 : IntKind.i64.wrap (gv b 0 1) = gv b 0 1 := IntWalk.i64_in _ (by omega)
  have HR := Aside0.mk hr
  have HK := Aside0.mk hK
  clear hr hy hc hg0 hK
  have hb0 : (b.length : Int) ≠ 0 := by omega
  have fb0 : ((b.length : Int) == 0) = false := beq_eq_false_iff_ne.2 hb0
  have hbi : (0 : Int) < (b.length : Int) := by omega
  go_enter Try.func28, Try.ntmps28
  go_upto_region 3 with (fail)
  obtain ⟨W0, hW0⟩ : ∃ W0, W0 = w.alloc (.cells #[.int .i64 0, .int .u64 0, .int .i64 0, .int .i64 0, .int .i64 0, .int .i64 0, .int .u64 0, .int .i64 0, .int .i64 0, .int .i64 0, .slice none 0 0] 30) := ⟨_, rfl⟩
  rw [← hW0]
  have hb1 : Below w.heap.size w W0 := by rw [hW0]; exact below_alloc (Below.refl _ _) _
  have hres0 : W0.heap[w.heap.size]? = some (.cells (celA cel0 none 0) 30 (0, 0)) := by rw [hW0]; exact blk_new _ _
  have h0' := pw_cell_below hb1 h0
  have HS0 := Aside0.mk (And.intro hb1 hres0)
  clear hW0 hb1 hres0 h0
  by_cases k1 : gv b 0 1 < 1
  · have f1 : decide (gv b 0 1 < 1) = true := decide_eq_true k1
    clear k1
    go_upto_region 5 with (fail)
    obtain ⟨W1, hW1⟩ : ∃ W1, W1 = W0.alloc (.cells #[.int .i64 (gv b 0 1), .int .u64 0, .int .i64 0, .int .i64 0, .int .i64 0, .int .i64 0, .int .u64 0, .int .i64 0, .int .i64 0, .int .i64 0, .slice none 0 0] 30) := ⟨_, rfl⟩
    rw [← hW1]
    have hr1 : W1.heap[w.heap.size]? = some (.cells (celA cel0 none 0) 30 (0, 0)) := by rw [hW1]; exact blk_alloc HS0.out.2 _
    have hb2 : Below w.heap.size w W1 := by rw [hW1]; exact HS0.out.1.alloc HS0.out.1.size _
    have HQ := Aside0.mk (And.intro hr1 hb2)
    clear hW1
    have t0 : W1.cell? ⟨w.heap.size, 0, none⟩ = some (.int .i64 0) := blk_cell hr1 0
    have t1 : W1.cell? ⟨w.heap.size, 1, none⟩ = some (.int .u64 0) := blk_cell hr1 1
    have t2 : W1.cell? ⟨w.heap.size, 2, none⟩ = some (.int .i64 0) := blk_cell hr1 2
    have t3 : W1.cell? ⟨w.heap.size, 3, none⟩ = some (.int .i64 0) := blk_cell hr1 3
    have t4 : W1.cell? ⟨w.heap.size, 4, none⟩ = some (.int .i64 0) := blk_cell hr1 4
    have t5 : W1.cell? ⟨w.heap.size, 5, none⟩ = some (.int .i64 0) := blk_cell hr1 5
    have t6 : W1.cell? ⟨w.heap.size, 6, none⟩ = some (.int .u64 0) := blk_cell hr1 6
    have t7 : W1.cell? ⟨w.heap.size, 7, none⟩ = some (.int .i64 0) := blk_cell hr1 7
    have t8 : W1.cell? ⟨w.heap.size, 8, none⟩ = some (.int .i64 0) := blk_cell hr1 8
    have t9 : W1.cell? ⟨w.heap.size, 9, none⟩ = some (.int .i64 0) := blk_cell hr1 9
    have t10 : W1.cell? ⟨w.heap.size, 10, none⟩ = some (.slice none 0 0) := blk_cell hr1 10
    have zt0 := blk_frozen hr1 0
    have zt1 := blk_frozen hr1 1
    have zt2 := blk_frozen hr1 2
    have zt3 := blk_frozen hr1 3
    have zt4 := blk_frozen hr1 4
    have zt5 := blk_frozen hr1 5
    have zt6 := blk_frozen hr1 6
    have zt7 := blk_frozen hr1 7
    have zt8 := blk_frozen hr1 8
    have zt9 := blk_frozen hr1 9
    have zt10 := blk_frozen hr1 10
    clear hr1 hb2
    go_wp2
    obtain ⟨W9, hW9⟩ : ∃ W9, W9 = (((((((((((W1.setCell ⟨w.heap.size, 0, none⟩ (.int .i64 0)).setCell ⟨w.heap.size, 1, none⟩ (.int .u64 0)).setCell ⟨w.heap.size, 2, none⟩ (.int .i64 0)).setCell ⟨w.heap.size, 3, none⟩ (.int .i64 0)).setCell ⟨w.heap.size, 4, none⟩ (.int .i64 0)).setCell ⟨w.heap.size, 5, none⟩ (.int .i64 0)).setCell ⟨w.heap.size, 6, none⟩ (.int .u64 0)).setCell ⟨w.heap.size, 7, none⟩ (.int .i64 0)).setCell ⟨w.heap.size, 8, none⟩ (.int .i64 0)).setCell ⟨w.heap.size, 9, none⟩ (.int .i64 0)).setCell ⟨w.heap.size, 10, none⟩ (.slice none 0 0)) := ⟨_, rfl⟩
    rw [← hW9]
    have hr9 : W9.heap[w.heap.size]? = some (.cells (celA cel0 none 0) 30 (0, 0)) := by rw [hW9]; exact putCell_at (x := cel0) (A := none) (c := 0) HQ.out.1
    have hb9 : Below w.heap.size w W9 := by rw [hW9]; exact putCell_below (x := cel0) (A := none) (c := 0) HQ.out.2 (Nat.le_refl _)
    clear hW9 t0 t1 t2 t3 t4 t5 t6 t7 t8 t9 t10
    have t0 : W9.cell? ⟨w.heap.size, 0, none⟩ = some (.int .i64 0) := blk_cell hr9 0
    have t1 : W9.cell? ⟨w.heap.size, 1, none⟩ = some (.int .u64 0) := blk_cell hr9 1
    have t2 : W9.cell? ⟨w.heap.size, 2, none⟩ = some (.int .i64 0) := blk_cell hr9 2
    have t3 : W9.cell? ⟨w.heap.size, 3, none⟩ = some (.int .i64 0) := blk_cell hr9 3
    have t4 : W9.cell? ⟨w.heap.size, 4, none⟩ = some (.int .i64 0) := blk_cell hr9 4
    have t5 : W9.cell? ⟨w.heap.size, 5, none⟩ = some (.int .i64 0) := blk_cell hr9 5
    have t6 : W9.cell? ⟨w.heap.size, 6, none⟩ = some (.int .u64 0) := blk_cell hr9 6
    have t7 : W9.cell? ⟨w.heap.size, 7, none⟩ = some (.int .i64 0) := blk_cell hr9 7
    have t8 : W9.cell? ⟨w.heap.size, 8, none⟩ = some (.int .i64 0) := blk_cell hr9 8
    have t9 : W9.cell? ⟨w.heap.size, 9, none⟩ = some (.int .i64 0) := blk_cell hr9 9
    have t10 : W9.cell? ⟨w.heap.size, 10, none⟩ = some (.slice none 0 0) := blk_cell hr9 10
    refine bodyPost_ret (v := .tuple #[.agg (celA cel0 none 0), .int .i64 0, .int .i64 3]) (by simp [results, Try.results28, go_sem, cel0, t0, t1, t2, t3, t4, t5, t6, t7, t8, t9, t10]) rfl ?_
    exact ⟨⟨none, 0, rfl, RdB_nil _⟩, hb9⟩
  have f1 : decide (gv b 0 1 < 1) = false := decide_eq_false k1
  have f2 : decide (8 < gv b 0 1) = true := decide_eq_true (by have := HK.out; omega)
  clear k1
  go_upto_region 5 with (fail)
  obtain ⟨W1, hW1⟩ : ∃ W1, W1 = W0.alloc (.cells #[.int .i64 (gv b 0 1), .int .u64 0, .int .i64 0, .int .i64 0, .int .i64 0, .int .i64 0, .int .u64 0, .int .i64 0, .int .i64 0, .int .i64 0, .slice none 0 0] 30) := ⟨_, rfl⟩
  rw [← hW1]
  have hr1 : W1.heap[w.heap.size]? = some (.cells (celA cel0 none 0) 30 (0, 0)) := by rw [hW1]; exact blk_alloc HS0.out.2 _
  have hb2 : Below w.heap.size w W1 := by rw [hW1]; exact HS0.out.1.alloc HS0.out.1.size _
  have HQ := Aside0.mk (And.intro hr1 hb2)
  clear hW1
  have t0 : W1.cell? ⟨w.heap.size, 0, none⟩ = some (.int .i64 0) := blk_cell hr1 0
  have t1 : W1.cell? ⟨w.heap.size, 1, none⟩ = some (.int .u64 0) := blk_cell hr1 1
  have t2 : W1.cell? ⟨w.heap.size, 2, none⟩ = some (.int .i64 0) := blk_cell hr1 2
  have t3 : W1.cell? ⟨w.heap.size, 3, none⟩ = some (.int .i64 0) := blk_cell hr1 3
  have t4 : W1.cell? ⟨w.heap.size, 4, none⟩ = some (.int .i64 0) := blk_cell hr1 4
  have t5 : W1.cell? ⟨w.heap.size, 5, none⟩ = some (.int .i64 0) := blk_cell hr1 5
  have t6 : W1.cell? ⟨w.heap.size, 6, none⟩ = some (.int .u64 0) := blk_cell hr1 6
  have t7 : W1.cell? ⟨w.heap.size, 7, none⟩ = some (.int .i64 0) := blk_cell hr1 7
  have t8 : W1.cell? ⟨w.heap.size, 8, none⟩ = some (.int .i64 0) := blk_cell hr1 8
  have t9 : W1.cell? ⟨w.heap.size, 9, none⟩ = some (.int .i64 0) := blk_cell hr1 9
  have t10 : W1.cell? ⟨w.heap.size, 10, none⟩ = some (.slice none 0 0) := blk_cell hr1 10
  have zt0 := blk_frozen hr1 0
  have zt1 := blk_frozen hr1 1
  have zt2 := blk_frozen hr1 2
  have zt3 := blk_frozen hr1 3
  have zt4 := blk_frozen hr1 4
  have zt5 := blk_frozen hr1 5
  have zt6 := blk_frozen hr1 6
  have zt7 := blk_frozen hr1 7
  have zt8 := blk_frozen hr1 8
  have zt9 := blk_frozen hr1 9
  have zt10 := blk_frozen hr1 10
  clear hr1 hb2
  go_wp2
  obtain ⟨W9, hW9⟩ : ∃ W9, W9 = (((((((((((W1.setCell ⟨w.heap.size, 0, none⟩ (.int .i64 0)).setCell ⟨w.heap.size, 1, none⟩ (.int .u64 0)).setCell ⟨w.heap.size, 2, none⟩ (.int .i64 0)).setCell ⟨w.heap.size, 3, none⟩ (.int .i64 0)).setCell ⟨w.heap.size, 4, none⟩ (.int .i64 0)).setCell ⟨w.heap.size, 5, none⟩ (.int .i64 0)).setCell ⟨w.heap.size, 6, none⟩ (.int .u64 0)).setCell ⟨w.heap.size, 7, none⟩ (.int .i64 0)).setCell ⟨w.heap.size, 8, none⟩ (.int .i64 0)).setCell ⟨w.heap.size, 9, none⟩ (.int .i64 0)).setCell ⟨w.heap.size, 10, none⟩ (.slice none 0 0)) := ⟨_, rfl⟩
  rw [← hW9]
  have hr9 : W9.heap[w.heap.size]? = some (.cells (celA cel0 none 0) 30 (0, 0)) := by rw [hW9]; exact putCell_at (x := cel0) (A := none) (c := 0) HQ.out.1
  have hb9 : Below w.heap.size w W9 := by rw [hW9]; exact putCell_below (x := cel0) (A := none) (c := 0) HQ.out.2 (Nat.le_refl _)
  clear hW9 t0 t1 t2 t3 t4 t5 t6 t7 t8 t9 t10
  have t0 : W9.cell? ⟨w.heap.size, 0, none⟩ = some (.int .i64 0) := blk_cell hr9 0
  have t1 : W9.cell? ⟨w.heap.size, 1, none⟩ = some (.int .u64 0) := blk_cell hr9 1
  have t2 : W9.cell? ⟨w.heap.size, 2, none⟩ = some (.int .i64 0) := blk_cell hr9 2
  have t3 : W9.cell? ⟨w.heap.size, 3, none⟩ = some (.int .i64 0) := blk_cell hr9 3
  have t4 : W9.cell? ⟨w.heap.size, 4, none⟩ = some (.int .i64 0) := blk_cell hr9 4
  have t5 : W9.cell? ⟨w.heap.size, 5, none⟩ = some (.int .i64 0) := blk_cell hr9 5
  have t6 : W9.cell? ⟨w.heap.size, 6, none⟩ = some (.int .u64 0) := blk_cell hr9 6
  have t7 : W9.cell? ⟨w.heap.size, 7, none⟩ = some (.int .i64 0) := blk_cell hr9 7
  have t8 : W9.cell? ⟨w.heap.size, 8, none⟩ = some (.int .i64 0) := blk_cell hr9 8
  have t9 : W9.cell? ⟨w.heap.size, 9, none⟩ = some (.int .i64 0) := blk_cell hr9 9
  have t10 : W9.cell? ⟨w.heap.size, 10, none⟩ = some (.slice none 0 0) := blk_cell hr9 10
  refine bodyPost_ret (v := .tuple #[.agg (celA cel0 none 0), .int .i64 0, .int .i64 3]) (by simp [results, Try.results28, go_sem, cel0, t0, t1, t2, t3, t4, t5, t6, t7, t8, t9, t10]) rfl ?_
  exact ⟨⟨none, 0, rfl, RdB_nil _⟩, hb9⟩
theorem refdec_v (A : Option Addr) (c : Nat) (b : List Int) (v w : World) (hv : Below v.heap.size v w) (hr : RdB v A b) (hc : b.length ≤ c) (hy : Byt b) (hl : b.length ≤ 1000) :
    Calls Try.prog 28 #[.slice A b.length c] w fun e w' => RDecdV v w w' e (rdecS b) := by
  by_cases h0 : b.length = 0
  · have he : rdecS b = (cel0, 0, 14) := by simp [rdecS, decS, h0]
    rw [he, h0]
    exact refdec_empty A c v w
  cases hK : hasKind (gv b 0 1) with
  | false =>
    have he : rdecS b = (cel0, 0, 3) := by simp [rdecS, decS, h0, hK]
    rw [he]
    exact refdec_no A c b v w (Kd.C_below hr hv) hc hy h0 (of_decide_eq_false hK)
  | true =>
    have hkk := of_decide_eq_true hK
    have g1 : decide (gv b 0 1 < 1) = false := decide_eq_false (by omega)
    have g8 : decide (8 < gv b 0 1) = false := decide_eq_false (by omega)
    have hw := cell_wf hy
    have he : ∀ n, totalS b = n → rdecS b = if b.length < n then (cel0, 0, 14) else if rightB (cellOf b) then (cellOf b, ((n : Nat) : Int), 0) else (cel0, 0, 3) := fun n hn => by
      unfold rdecS
      rw [decS, if_neg h0, if_neg (by rw [hK]; simp), hn]
      by_cases h1 : b.length < n
      · simp [h1]
      · by_cases h2 : rightB (cellOf b) = true
        · simp [h1, h2]
        · simp [h1, h2]
    rcases kind_six hK with ⟨h1, h2, h3, h4⟩ | ⟨h1, h2, h3, h4⟩ | ⟨h1, h2, h3, h4⟩ | ⟨h1, h2, h3, h4⟩ | ⟨h1, h2, h3, h4⟩ | ⟨h1, h2, h3, h4⟩
    · have hoR : offR (gv b 0 1) = 11 := by simp only [offR, h1, h2, h3, h4, if_true, Bool.false_eq_true, if_false]
      have hoM : offM (gv b 0 1) = 13 := by simp only [offM, hoR, h1, h2, h3, h4, if_true, Bool.false_eq_true, if_false]
      have hoB : offB (gv b 0 1) = 13 := by simp only [offB, hoM, h1, h2, h3, h4, if_true, Bool.false_eq_true, if_false]
      have hnd : needS (gv b 0 1) = 14 := by simp only [needS, hoB, h1, h2, h3, h4, if_true, Bool.false_eq_true, if_false]
      obtain ⟨nb, hnb⟩ := Int.eq_ofNat_of_zero_le (gv_range hy 13 1).1
      have hnb2 : nb ≤ 255 := by have := (gv_range hy 13 1).2; omega
      have hT : totalS b = 14 + nb := by simp only [totalS, hnd, hoB, hnb, h1, h2, h3, h4, if_true, Bool.false_eq_true, if_false, Int.toNat_natCast]
      rw [he _ hT]
      by_cases hlt : b.length < 14 + nb
      · rw [if_pos hlt]
        exact refdec_prb A c b v w hv hr hc hy hl h0 ⟨h1, h2, h3, h4⟩ g1 g8 nb ⟨hnb, hnb2⟩ _ ⟨rfl⟩ ⟨⟨(cell_wf hy).1, by have := (cell_wf hy).2.1; simp only [cellOf, hoR, h2, if_true] at this; exact this, tk_byt hy _ _⟩⟩ _ ⟨by rw [if_pos hlt]⟩
      · have hx : cellOf b = ⟨gv b 0 1, gv b 1 2, gv b 3 4, gv b 7 1, gv b 8 1, gv b 9 2, gv b 11 2, 0, 0, 0, tk b 14 nb⟩ := by simp only [cellOf, hoR, hoM, hoB, hnd, hnb, tk, h1, h2, h3, h4, if_true, Bool.false_eq_true, if_false, Int.toNat_natCast]; rw [if_pos (by omega)]
        exact refdec_prb A c b v w hv hr hc hy hl h0 ⟨h1, h2, h3, h4⟩ g1 g8 nb ⟨hnb, hnb2⟩ _ ⟨hx⟩ ⟨hw⟩ _ ⟨rfl⟩
    · have hoR : offR (gv b 0 1) = 11 := by simp only [offR, h1, h2, h3, h4, if_true, Bool.false_eq_true, if_false]
      have hoM : offM (gv b 0 1) = 13 := by simp only [offM, hoR, h1, h2, h3, h4, if_true, Bool.false_eq_true, if_false]
      have hoB : offB (gv b 0 1) = 13 := by simp only [offB, hoM, h1, h2, h3, h4, if_true, Bool.false_eq_true, if_false]
      have hnd : needS (gv b 0 1) = 13 := by simp only [needS, hoB, h1, h2, h3, h4, if_true, Bool.false_eq_true, if_false]
      have hT : totalS b = 13 := by simp only [totalS, hnd, h1, h2, h3, h4, if_true, Bool.false_eq_true, if_false, Nat.add_zero]
      rw [he _ hT]
      have hx : cellOf b = ⟨gv b 0 1, gv b 1 2, gv b 3 4, gv b 7 1, gv b 8 1, gv b 9 2, gv b 11 2, 0, 0, 0, []⟩ := by simp only [cellOf, hoR, hoM, hoB, h1, h2, h3, h4, if_true, Bool.false_eq_true, if_false]
      exact refdec_pr A c b v w hv hr hc hy hl h0 ⟨h1, h2, h3, h4⟩ g1 g8 0 ⟨rfl⟩ _ ⟨hx⟩ ⟨hw⟩ _ ⟨rfl⟩
    · have hoR : offR (gv b 0 1) = 11 := by simp only [offR, h1, h2, h3, h4, if_true, Bool.false_eq_true, if_false]
      have hoM : offM (gv b 0 1) = 11 := by simp only [offM, hoR, h1, h2, h3, h4, if_true, Bool.false_eq_true, if_false]
      have hoB : offB (gv b 0 1) = 11 := by simp only [offB, hoM, h1, h2, h3, h4, if_true, Bool.false_eq_true, if_false]
      have hnd : needS (gv b 0 1) = 11 := by simp only [needS, hoB, h1, h2, h3, h4, if_true, Bool.false_eq_true, if_false]
      have hT : totalS b = 11 := by simp only [totalS, hnd, h1, h2, h3, h4, if_true, Bool.false_eq_true, if_false, Nat.add_zero]
      rw [he _ hT]
      have hx : cellOf b = ⟨gv b 0 1, gv b 1 2, gv b 3 4, gv b 7 1, gv b 8 1, gv b 9 2, 0, 0, 0, 0, []⟩ := by simp only [cellOf, hoR, hoM, hoB, h1, h2, h3, h4, if_true, Bool.false_eq_true, if_false]
      exact refdec_p A c b v w hv hr hc hy hl h0 ⟨h1, h2, h3, h4⟩ g1 g8 0 ⟨rfl⟩ _ ⟨hx⟩ ⟨hw⟩ _ ⟨rfl⟩
    · have hoR : offR (gv b 0 1) = 7 := by simp only [offR, h1, h2, h3, h4, if_true, Bool.false_eq_true, if_false]
      have hoM : offM (gv b 0 1) = 9 := by simp only [offM, hoR, h1, h2, h3, h4, if_true, Bool.false_eq_true, if_false]
      have hoB : offB (gv b 0 1) = 21 := by simp only [offB, hoM, h1, h2, h3, h4, if_true, Bool.false_eq_true, if_false]
      have hnd : needS (gv b 0 1) = 21 := by simp only [needS, hoB, h1, h2, h3, h4, if_true, Bool.false_eq_true, if_false]
      have hT : totalS b = 21 := by simp only [totalS, hnd, h1, h2, h3, h4, if_true, Bool.false_eq_true, if_false, Nat.add_zero]
      rw [he _ hT]
      have hx : cellOf b = ⟨gv b 0 1, gv b 1 2, gv b 3 4, 0, 0, 0, gv b 7 2, gv b 9 4, gv b 13 4, gv b 17 4, []⟩ := by simp only [cellOf, hoR, hoM, hoB, h1, h2, h3, h4, if_true, Bool.false_eq_true, if_false]
      exact refdec_rm A c b v w hv hr hc hy hl h0 ⟨h1, h2, h3, h4⟩ g1 g8 0 ⟨rfl⟩ _ ⟨hx⟩ ⟨hw⟩ _ ⟨rfl⟩
    · have hoR : offR (gv b 0 1) = 7 := by simp only [offR, h1, h2, h3, h4, if_true, Bool.false_eq_true, if_false]
      have hoM : offM (gv b 0 1) = 9 := by simp only [offM, hoR, h1, h2, h3, h4, if_true, Bool.false_eq_true, if_false]
      have hoB : offB (gv b 0 1) = 9 := by simp only [offB, hoM, h1, h2, h3, h4, if_true, Bool.false_eq_true, if_false]
      have hnd : needS (gv b 0 1) = 9 := by simp only [needS, hoB, h1, h2, h3, h4, if_true, Bool.false_eq_true, if_false]
      have hT : totalS b = 9 := by simp only [totalS, hnd, h1, h2, h3, h4, if_true, Bool.false_eq_true, if_false, Nat.add_zero]
      rw [he _ hT]
      have hx : cellOf b = ⟨gv b 0 1, gv b 1 2, gv b 3 4, 0, 0, 0, gv b 7 2, 0, 0, 0, []⟩ := by simp only [cellOf, hoR, hoM, hoB, h1, h2, h3, h4, if_true, Bool.false_eq_true, if_false]
      exact refdec_r A c b v w hv hr hc hy hl h0 ⟨h1, h2, h3, h4⟩ g1 g8 0 ⟨rfl⟩ _ ⟨hx⟩ ⟨hw⟩ _ ⟨rfl⟩
    · have hoR : offR (gv b 0 1) = 7 := by simp only [offR, h1, h2, h3, h4, if_true, Bool.false_eq_true, if_false]
      have hoM : offM (gv b 0 1) = 7 := by simp only [offM, hoR, h1, h2, h3, h4, if_true, Bool.false_eq_true, if_false]
      have hoB : offB (gv b 0 1) = 7 := by simp only [offB, hoM, h1, h2, h3, h4, if_true, Bool.false_eq_true, if_false]
      have hnd : needS (gv b 0 1) = 7 := by simp only [needS, hoB, h1, h2, h3, h4, if_true, Bool.false_eq_true, if_false]
      have hT : totalS b = 7 := by simp only [totalS, hnd, h1, h2, h3, h4, if_true, Bool.false_eq_true, if_false, Nat.add_zero]
      rw [he _ hT]
      have hx : cellOf b = ⟨gv b 0 1, gv b 1 2, gv b 3 4, 0, 0, 0, 0, 0, 0, 0, []⟩ := by simp only [cellOf, hoR, hoM, hoB, h1, h2, h3, h4, if_true, Bool.false_eq_true, if_false]
      exact refdec_n A c b v w hv hr hc hy hl h0 ⟨h1, h2, h3, h4⟩ g1 g8 0 ⟨rfl⟩ _ ⟨hx⟩ ⟨hw⟩ _ ⟨rfl⟩
theorem refdec_any (A : Option Addr) (c : Nat) (b : List Int) (w : World) (hr : RdB w A b) (hc : b.length ≤ c) (hy : Byt b) (hl : b.length ≤ 1000) :
    Calls Try.prog 28 #[.slice A b.length c] w fun e w' => RDecd w w' e (rdecS b) := by
  refine (refdec_v A c b w w (Below.refl _ _) hr hc hy hl).mono ?_
  rintro e w' ⟨⟨A1, c1, rfl, h⟩, hb⟩
  exact ⟨⟨A1, c1, rfl, Kd.C_below h hb⟩, hb⟩
theorem dec_rest {b r : List Int} {c : Cel} (h : decS b = (c, r, 0)) : r = b.drop (totalS b) ∧ totalS b ≤ b.length := by
  unfold decS at h
  split at h
  · simp at h
  split at h
  · simp at h
  split at h
  · simp at h
  split at h
  · rename_i h1 h2 h3 h4
    simp only [Prod.mk.injEq] at h
    exact ⟨h.2.1.symm, by omega⟩
  · simp at h
end Go.Proofs.Ytghcnipehgjegaa.Cell
