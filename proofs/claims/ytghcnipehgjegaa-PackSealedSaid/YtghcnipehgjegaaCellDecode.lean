/- What cell.Decode answers, for any bytes. Conditions stand in each statement. -/
import Derived.Test.YtghcnipehgjegaaCellDec
namespace Go.Proofs.Ytghcnipehgjegaa.Cell
open Go.RowKit Go.Proofs.YtghcnipehgjegaaW.PrintWords Go.Proofs.YtghcnipehgjegaaW.PrintLast Go.Proofs.YtghcnipehgjegaaW.PrintMore Go.Proofs.Ytghcnipehgjegaa.Kit Go.Proofs.Ytghcnipehgjegaa.Plain Go.Proofs.Ytghcnipehgjegaa.Wire
set_option linter.unusedVariables false
set_option linter.unusedSimpArgs false
/-- What a decoding's call leaves. -/
def DecdV (v w w' : World) (e : Ending) (r : Cel × List Int × Int) : Prop := (∃ A1 c1 A2 c2, e = .returned (.tuple #[.agg (celA r.1 A1 c1), .slice A2 r.2.1.length c2, .int .i64 r.2.2]) ∧ OwB w' w.heap.size (.slice A1 r.1.body.length c1) r.1.body ∧ RdB v A2 r.2.1 ∧ r.2.1.length ≤ c2) ∧ Below w.heap.size w w'
abbrev Decd (w w' : World) (e : Ending) (r : Cel × List Int × Int) : Prop := DecdV w w w' e r
set_option maxHeartbeats 1600000 in
set_option maxRecDepth 100000 in
theorem decode_empty (A : Option Addr) (c : Nat) (v w : World) :
    Calls Try.prog 27 #[.slice A 0 c] w fun e w' => DecdV v w w' e (cel0, [], 14) := by
  go_enter Try.func27, Try.ntmps27
  go_wp2
  refine bodyPost_ret (v := .tuple #[.agg (celA cel0 none 0), .slice none 0 0, .int .i64 14]) (by simp [results, Try.results27, go_sem, cel0]) rfl ?_
  exact ⟨⟨none, 0, none, 0, rfl, Kd.R_nil _ _ _ _ _, RdB_nil _, Nat.le_refl _⟩, below_alloc (Below.refl _ _) _⟩
set_option maxHeartbeats 3200000 in
set_option maxRecDepth 100000 in
theorem decode_nokind (A : Option Addr) (c : Nat) (b : List Int) (v w : World) (hr : RdB w A b) (hc : b.length ≤ c) (hy : Byt b) (h0 : b.length ≠ 0) (hK : Aside0 (hasKind (gv b 0 1) = false)) (hV : Aside0 (partsV (gv b 0 1) = .agg #[.bool false, .bool false, .bool false, .bool false])) :
    Calls Try.prog 27 #[.slice A b.length c] w fun e w' => DecdV v w w' e (cel0, [], 3) := by
  have hmx := C_max hr
  have HR := Aside0.mk hr
  have HY := Aside0.mk hy
  have HC := Aside0.mk hc
  clear hr hy hc
  go_enter Try.func27, Try.ntmps27
  go_upto_region 6 with (first | (go_at_call 39; go_must (refine (num_any (w.heap.size + 1) b 0 1 1 rfl w _ (dec_start (Below.refl _ _) HR.out HC.out) HY.out (by decide) (by decide)).mono ?_; rintro e w1 ⟨rfl, h2, hk⟩; have HRD := Aside0.mk h2; have HK1 := Aside0.mk hk; clear h2 hk)) | (go_at_call 36; go_must (refine (has_any (gv b 0 1) _).mono ?_; rintro e w2 ⟨rfl, hb⟩; rw [hV.out, hK.out]; have HB2 := Aside0.mk hb; clear hb)))
  obtain ⟨W3, hW3⟩ : ∃ W3, W3 = w2.alloc (.cells #[.bool false, .bool false, .bool false, .bool false] 84) := ⟨_, rfl⟩
  rw [← hW3]
  have HD := Aside0.mk (show DS w w W3 (w.heap.size + 1) w1.heap.size w2.heap.size b 1 ⟨gv b 0 1, 0, 0, 0, 0, 0, 0, 0, 0, 0, []⟩ none 0 #[.bool false, .bool false, .bool false, .bool false] by rw [hW3]; exact dec_first (Below.refl _ _) HRD.out HK1.out HB2.out)
  clear hW3 HRD HK1 HB2
  have hxr := HD.out.res
  have t0 : W3.cell? ⟨w.heap.size, 0, none⟩ = some (.int .i64 0) := blk_cell hxr 0
  have t1 : W3.cell? ⟨w.heap.size, 1, none⟩ = some (.int .u64 0) := blk_cell hxr 1
  have t2 : W3.cell? ⟨w.heap.size, 2, none⟩ = some (.int .i64 0) := blk_cell hxr 2
  have t3 : W3.cell? ⟨w.heap.size, 3, none⟩ = some (.int .i64 0) := blk_cell hxr 3
  have t4 : W3.cell? ⟨w.heap.size, 4, none⟩ = some (.int .i64 0) := blk_cell hxr 4
  have t5 : W3.cell? ⟨w.heap.size, 5, none⟩ = some (.int .i64 0) := blk_cell hxr 5
  have t6 : W3.cell? ⟨w.heap.size, 6, none⟩ = some (.int .u64 0) := blk_cell hxr 6
  have t7 : W3.cell? ⟨w.heap.size, 7, none⟩ = some (.int .i64 0) := blk_cell hxr 7
  have t8 : W3.cell? ⟨w.heap.size, 8, none⟩ = some (.int .i64 0) := blk_cell hxr 8
  have t9 : W3.cell? ⟨w.heap.size, 9, none⟩ = some (.int .i64 0) := blk_cell hxr 9
  have t10 : W3.cell? ⟨w.heap.size, 10, none⟩ = some (.slice none 0 0) := blk_cell hxr 10
  have zt0 := blk_frozen hxr 0
  have zt1 := blk_frozen hxr 1
  have zt2 := blk_frozen hxr 2
  have zt3 := blk_frozen hxr 3
  have zt4 := blk_frozen hxr 4
  have zt5 := blk_frozen hxr 5
  have zt6 := blk_frozen hxr 6
  have zt7 := blk_frozen hxr 7
  have zt8 := blk_frozen hxr 8
  have zt9 := blk_frozen hxr 9
  have zt10 := blk_frozen hxr 10
  clear hxr
  go_wp2
  obtain ⟨W9, hW9⟩ : ∃ W9, W9 = (((((((((((W3.setCell ⟨w.heap.size, 0, none⟩ (.int .i64 0)).setCell ⟨w.heap.size, 1, none⟩ (.int .u64 0)).setCell ⟨w.heap.size, 2, none⟩ (.int .i64 0)).setCell ⟨w.heap.size, 3, none⟩ (.int .i64 0)).setCell ⟨w.heap.size, 4, none⟩ (.int .i64 0)).setCell ⟨w.heap.size, 5, none⟩ (.int .i64 0)).setCell ⟨w.heap.size, 6, none⟩ (.int .u64 0)).setCell ⟨w.heap.size, 7, none⟩ (.int .i64 0)).setCell ⟨w.heap.size, 8, none⟩ (.int .i64 0)).setCell ⟨w.heap.size, 9, none⟩ (.int .i64 0)).setCell ⟨w.heap.size, 10, none⟩ (.slice none 0 0)) := ⟨_, rfl⟩
  rw [← hW9]
  have hr9 : W9.heap[w.heap.size]? = some (.cells (celA cel0 none 0) 30 (0, 0)) := by rw [hW9]; exact putCell_at (x := cel0) (A := none) (c := 0) HD.out.res
  have hb9 : Below w.heap.size w W9 := by rw [hW9]; exact putCell_below (x := cel0) (A := none) (c := 0) HD.out.bel (Nat.le_refl _)
  clear hW9 t0 t1 t2 t3 t4 t5 t6 t7 t8 t9 t10
  have t0 : W9.cell? ⟨w.heap.size, 0, none⟩ = some (.int .i64 0) := blk_cell hr9 0
  have t1 : W9.cell? ⟨w.heap.size, 1, none⟩ = some (.int .u64 0) := blk_cell hr9 1
  have t2 : W9.cell? ⟨w.heap.size, 2, none⟩ = some (.int .i64 0) := blk_cell hr9 2
  have t3 : W9.cell? ⟨w.heap.size, 3, none⟩ = some (.int .i64 0) := blk_cell hr9 3
  have t4 : W9.cell? ⟨w.heap.size, 4, none⟩ = some (.int .i64 0) := blk_cell hr9 4
  have t5 : W9.cell? ⟨w.heap.size, 5, none⟩ = some (.int .i64 0) := blk_cell hr9 5
  have t6 : W9.cell? ⟨w.heap.size, 6, none⟩ = some (.int .u64 0) := blk_cell hr9 6
  have t7 : W9.cell? ⟨w.heap.size, 7, none⟩ = some (.int .i64 0) := blk_cell hr9 7
  have t8 : W9.cell? ⟨w.heap.size, 8, none⟩ = some (.int .i64 0) := blk_cell hr9 8
  have t9 : W9.cell? ⟨w.heap.size, 9, none⟩ = some (.int .i64 0) := blk_cell hr9 9
  have t10 : W9.cell? ⟨w.heap.size, 10, none⟩ = some (.slice none 0 0) := blk_cell hr9 10
  refine bodyPost_ret (v := .tuple #[.agg (celA cel0 none 0), .slice none 0 0, .int .i64 3]) (by simp [results, Try.results27, go_sem, cel0, t0, t1, t2, t3, t4, t5, t6, t7, t8, t9, t10]) rfl ?_
  exact ⟨⟨none, 0, none, 0, rfl, Kd.R_nil _ _ _ _ _, RdB_nil _, Nat.le_refl _⟩, hb9⟩
theorem decode_v (A : Option Addr) (c : Nat) (b : List Int) (v w : World) (hv : Below v.heap.size v w) (hr : RdB v A b) (hc : b.length ≤ c) (hy : Byt b) (hl : b.length ≤ 1000) :
    Calls Try.prog 27 #[.slice A b.length c] w fun e w' => DecdV v w w' e (decS b) := by
  by_cases h0 : b.length = 0
  · have he : decS b = (cel0, [], 14) := by rw [decS, if_pos h0]
    rw [he, h0]
    exact decode_empty A c v w
  cases hK : hasKind (gv b 0 1) with
  | false =>
    have he : decS b = (cel0, [], 3) := by rw [decS, if_neg h0, if_pos hK]
    obtain ⟨h1, h2, h3, h4⟩ := kind_no hK
    rw [he]
    exact decode_nokind A c b v w (Kd.C_below hr hv) hc hy h0 ⟨hK⟩ ⟨by rw [partsV, h1, h2, h3, h4]⟩
  | true =>
    have hw := cell_wf hy
    have he : ∀ n, totalS b = n → decS b = if b.length < n then (cel0, [], 14) else if rightB (cellOf b) then (cellOf b, b.drop n, 0) else (cel0, [], 3) := fun n hn => by
      rw [decS, if_neg h0, if_neg (by rw [hK]; simp), hn]
    rcases kind_six hK with ⟨h1, h2, h3, h4⟩ | ⟨h1, h2, h3, h4⟩ | ⟨h1, h2, h3, h4⟩ | ⟨h1, h2, h3, h4⟩ | ⟨h1, h2, h3, h4⟩ | ⟨h1, h2, h3, h4⟩
    · have hoR : offR (gv b 0 1) = 11 := by simp only [offR, h1, h2, h3, h4, if_true, Bool.false_eq_true, if_false]
      have hoM : offM (gv b 0 1) = 13 := by simp only [offM, hoR, h1, h2, h3, h4, if_true, Bool.false_eq_true, if_false]
      have hoB : offB (gv b 0 1) = 13 := by simp only [offB, hoM, h1, h2, h3, h4, if_true, Bool.false_eq_true, if_false]
      have hnd : needS (gv b 0 1) = 14 := by simp only [needS, hoB, h1, h2, h3, h4, if_true, Bool.false_eq_true, if_false]
      obtain ⟨nb, hnb⟩ := Int.eq_ofNat_of_zero_le (gv_range hy 13 1).1
      have hnb2 : nb ≤ 255 := by have := (gv_range hy 13 1).2; omega
      have hT : totalS b = 14 + nb := by simp only [totalS, hnd, hoB, hnb, h1, h2, h3, h4, if_true, Bool.false_eq_true, if_false, Int.toNat_natCast]
      rw [he _ hT]
      by_cases hlt : b.length < 14 + nb
      · rw [if_pos hlt]
        exact decode_prb A c b v w hv hr hc hy hl h0 ⟨by rw [partsV, h1, h2, h3, h4]⟩ ⟨hK⟩ nb ⟨hnb, hnb2⟩ _ ⟨rfl⟩ ⟨⟨(cell_wf hy).1, by have := (cell_wf hy).2.1; simp only [cellOf, hoR, h2, if_true] at this; exact this, tk_byt hy _ _⟩⟩ _ ⟨by rw [if_pos hlt]⟩
      · have hx : cellOf b = ⟨gv b 0 1, gv b 1 2, gv b 3 4, gv b 7 1, gv b 8 1, gv b 9 2, gv b 11 2, 0, 0, 0, tk b 14 nb⟩ := by simp only [cellOf, hoR, hoM, hoB, hnd, hnb, tk, h1, h2, h3, h4, if_true, Bool.false_eq_true, if_false, Int.toNat_natCast]; rw [if_pos (by omega)]
        exact decode_prb A c b v w hv hr hc hy hl h0 ⟨by rw [partsV, h1, h2, h3, h4]⟩ ⟨hK⟩ nb ⟨hnb, hnb2⟩ _ ⟨hx⟩ ⟨hw⟩ _ ⟨rfl⟩
    · have hoR : offR (gv b 0 1) = 11 := by simp only [offR, h1, h2, h3, h4, if_true, Bool.false_eq_true, if_false]
      have hoM : offM (gv b 0 1) = 13 := by simp only [offM, hoR, h1, h2, h3, h4, if_true, Bool.false_eq_true, if_false]
      have hoB : offB (gv b 0 1) = 13 := by simp only [offB, hoM, h1, h2, h3, h4, if_true, Bool.false_eq_true, if_false]
      have hnd : needS (gv b 0 1) = 13 := by simp only [needS, hoB, h1, h2, h3, h4, if_true, Bool.false_eq_true, if_false]
      have hT : totalS b = 13 := by simp only [totalS, hnd, h1, h2, h3, h4, if_true, Bool.false_eq_true, if_false, Nat.add_zero]
      rw [he _ hT]
      have hx : cellOf b = ⟨gv b 0 1, gv b 1 2, gv b 3 4, gv b 7 1, gv b 8 1, gv b 9 2, gv b 11 2, 0, 0, 0, []⟩ := by simp only [cellOf, hoR, hoM, hoB, h1, h2, h3, h4, if_true, Bool.false_eq_true, if_false]
      exact decode_pr A c b v w hv hr hc hy hl h0 ⟨by rw [partsV, h1, h2, h3, h4]⟩ ⟨hK⟩ 0 ⟨rfl⟩ _ ⟨hx⟩ ⟨hw⟩ _ ⟨rfl⟩
    · have hoR : offR (gv b 0 1) = 11 := by simp only [offR, h1, h2, h3, h4, if_true, Bool.false_eq_true, if_false]
      have hoM : offM (gv b 0 1) = 11 := by simp only [offM, hoR, h1, h2, h3, h4, if_true, Bool.false_eq_true, if_false]
      have hoB : offB (gv b 0 1) = 11 := by simp only [offB, hoM, h1, h2, h3, h4, if_true, Bool.false_eq_true, if_false]
      have hnd : needS (gv b 0 1) = 11 := by simp only [needS, hoB, h1, h2, h3, h4, if_true, Bool.false_eq_true, if_false]
      have hT : totalS b = 11 := by simp only [totalS, hnd, h1, h2, h3, h4, if_true, Bool.false_eq_true, if_false, Nat.add_zero]
      rw [he _ hT]
      have hx : cellOf b = ⟨gv b 0 1, gv b 1 2, gv b 3 4, gv b 7 1, gv b 8 1, gv b 9 2, 0, 0, 0, 0, []⟩ := by simp only [cellOf, hoR, hoM, hoB, h1, h2, h3, h4, if_true, Bool.false_eq_true, if_false]
      exact decode_p A c b v w hv hr hc hy hl h0 ⟨by rw [partsV, h1, h2, h3, h4]⟩ ⟨hK⟩ 0 ⟨rfl⟩ _ ⟨hx⟩ ⟨hw⟩ _ ⟨rfl⟩
    · have hoR : offR (gv b 0 1) = 7 := by simp only [offR, h1, h2, h3, h4, if_true, Bool.false_eq_true, if_false]
      have hoM : offM (gv b 0 1) = 9 := by simp only [offM, hoR, h1, h2, h3, h4, if_true, Bool.false_eq_true, if_false]
      have hoB : offB (gv b 0 1) = 21 := by simp only [offB, hoM, h1, h2, h3, h4, if_true, Bool.false_eq_true, if_false]
      have hnd : needS (gv b 0 1) = 21 := by simp only [needS, hoB, h1, h2, h3, h4, if_true, Bool.false_eq_true, if_false]
      have hT : totalS b = 21 := by simp only [totalS, hnd, h1, h2, h3, h4, if_true, Bool.false_eq_true, if_false, Nat.add_zero]
      rw [he _ hT]
      have hx : cellOf b = ⟨gv b 0 1, gv b 1 2, gv b 3 4, 0, 0, 0, gv b 7 2, gv b 9 4, gv b 13 4, gv b 17 4, []⟩ := by simp only [cellOf, hoR, hoM, hoB, h1, h2, h3, h4, if_true, Bool.false_eq_true, if_false]
      exact decode_rm A c b v w hv hr hc hy hl h0 ⟨by rw [partsV, h1, h2, h3, h4]⟩ ⟨hK⟩ 0 ⟨rfl⟩ _ ⟨hx⟩ ⟨hw⟩ _ ⟨rfl⟩
    · have hoR : offR (gv b 0 1) = 7 := by simp only [offR, h1, h2, h3, h4, if_true, Bool.false_eq_true, if_false]
      have hoM : offM (gv b 0 1) = 9 := by simp only [offM, hoR, h1, h2, h3, h4, if_true, Bool.false_eq_true, if_false]
      have hoB : offB (gv b 0 1) = 9 := by simp only [offB, hoM, h1, h2, h3, h4, if_true, Bool.false_eq_true, if_false]
      have hnd : needS (gv b 0 1) = 9 := by simp only [needS, hoB, h1, h2, h3, h4, if_true, Bool.false_eq_true, if_false]
      have hT : totalS b = 9 := by simp only [totalS, hnd, h1, h2, h3, h4, if_true, Bool.false_eq_true, if_false, Nat.add_zero]
      rw [he _ hT]
      have hx : cellOf b = ⟨gv b 0 1, gv b 1 2, gv b 3 4, 0, 0, 0, gv b 7 2, 0, 0, 0, []⟩ := by simp only [cellOf, hoR, hoM, hoB, h1, h2, h3, h4, if_true, Bool.false_eq_true, if_false]
      exact decode_r A c b v w hv hr hc hy hl h0 ⟨by rw [partsV, h1, h2, h3, h4]⟩ ⟨hK⟩ 0 ⟨rfl⟩ _ ⟨hx⟩ ⟨hw⟩ _ ⟨rfl⟩
    · have hoR : offR (gv b 0 1) = 7 := by simp only [offR, h1, h2, h3, h4, if_true, Bool.false_eq_true, if_false]
      have hoM : offM (gv b 0 1) = 7 := by simp only [offM, hoR, h1, h2, h3, h4, if_true, Bool.false_eq_true, if_false]
      have hoB : offB (gv b 0 1) = 7 := by simp only [offB, hoM, h1, h2, h3, h4, if_true, Bool.false_eq_true, if_false]
      have hnd : needS (gv b 0 1) = 7 := by simp only [needS, hoB, h1, h2, h3, h4, if_true, Bool.false_eq_true, if_false]
      have hT : totalS b = 7 := by simp only [totalS, hnd, h1, h2, h3, h4, if_true, Bool.false_eq_true, if_false, Nat.add_zero]
      rw [he _ hT]
      have hx : cellOf b = ⟨gv b 0 1, gv b 1 2, gv b 3 4, 0, 0, 0, 0, 0, 0, 0, []⟩ := by simp only [cellOf, hoR, hoM, hoB, h1, h2, h3, h4, if_true, Bool.false_eq_true, if_false]
      exact decode_n A c b v w hv hr hc hy hl h0 ⟨by rw [partsV, h1, h2, h3, h4]⟩ ⟨hK⟩ 0 ⟨rfl⟩ _ ⟨hx⟩ ⟨hw⟩ _ ⟨rfl⟩
theorem decode_any (A : Option Addr) (c : Nat) (b : List Int) (w : World) (hr : RdB w A b) (hc : b.length ≤ c) (hy : Byt b) (hl : b.length ≤ 1000) :
    Calls Try.prog 27 #[.slice A b.length c] w fun e w' => Decd w w' e (decS b) := decode_v A c b w w (Below.refl _ _) hr hc hy hl
end Go.Proofs.Ytghcnipehgjegaa.Cell
