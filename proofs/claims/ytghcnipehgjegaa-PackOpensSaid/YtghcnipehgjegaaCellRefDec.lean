/- What get and Decode of the reference of layer 12 answer. Conditions stand in each statement. -/
import Derived.Test.YtghcnipehgjegaaCellRefAny
import Derived.Test.YtghcnipehgjegaaCellDecode
namespace Go.Proofs.Ytghcnipehgjegaa.Cell
open Go.RowKit Go.Proofs.YtghcnipehgjegaaW.PrintWords Go.Proofs.YtghcnipehgjegaaW.PrintLast Go.Proofs.YtghcnipehgjegaaW.PrintMore Go.Proofs.Ytghcnipehgjegaa.Kit Go.Proofs.Ytghcnipehgjegaa.Plain Go.Proofs.Ytghcnipehgjegaa.Wire
set_option linter.unusedVariables false
set_option linter.unusedSimpArgs false
set_option maxHeartbeats 400000 in
theorem refget_any (A : Option Addr) (n c : Nat) (l : List Int) (w : World) (hr : RdN w A n l) (hy : Byt l) (h8 : n ≤ 8) :
    Calls Try.prog 42 #[.slice A n c] w fun e w' => e = .returned (.int .u64 (val l)) ∧ w = w' := by
  obtain rfl := C_len hr
  have HR := Aside0.mk hr
  clear hr
  go_enter Try.func42, Try.ntmps42
  go_wp2
  go_loopg [3, 4] l.length (fun gk v3 v4 w' => ∃ i : Nat, v4 = .int .i64 i ∧ v3 = .int .u64 (val (l.take i)) ∧ i + gk = l.length ∧ w = w')
  case atStart => exact ⟨0, rfl, rfl, by omega, rfl⟩
  case round =>
    obtain ⟨i, rfl, rfl, hi, rfl⟩ := hrel
    by_cases hlt : i < l.length
    · obtain ⟨ad, rfl, hc⟩ := C_at HR.out i hlt
      obtain ⟨hs, hv0, hv1⟩ := val_step hy hlt h8
      have HS := Aside0.mk hs
      obtain ⟨hn0, hn1⟩ := hy.nth hlt
      clear hs
      have e1 := wrap_u64_in (val (l.take i) * 256) (by omega) (by omega)
      have e2 := wrap_u64_in (nth l i) (by omega) (by omega)
      have e3 := wrap_u64_in (val (l.take i) * 256 + nth l i) (by omega) (by omega)
      clear hv1 hn1
      go_wp2
      go_roundg (gk - 1)
      case measure => omega
      case rel => exact ⟨i + 1, rfl, by rw [HS.out], by omega, rfl⟩
    · have hi' : Aside0 (l.take i = l) := ⟨List.take_of_length_le (by omega)⟩
      go_wp2
      go_ret
      exact ⟨retI (by rw [hi'.out]), rfl⟩
theorem cutG {w : World} {A : Option Addr} {c : Nat} {b : List Int} (hr : RdB w A b) (hc : b.length ≤ c) (m n : Nat) (mI nI : Int) (hm : mI = (m : Int)) (hn : nI = ((m + n : Nat) : Int)) (h : m + n ≤ b.length) :
    ∃ A', (∀ W : World, (Instr.slice 28 (.slice A b.length c) (some (.int .i64 mI)) (some (.int .i64 nI)) none).run Try.prog W = .ok (.slice A' n (c - m)) W) ∧ RdN w A' n ((b.drop m).take n) := by
  subst hm hn
  obtain ⟨A', h1, h2⟩ := cutMid hr hc m (m + n) (by omega) h .i64 .i64
  rw [Nat.add_sub_cancel_left] at h1 h2
  rw [← List.take_drop] at h2
  exact ⟨A', h1, h2⟩
theorem gv_val {b : List Int} {m n : Nat} (h : m + n ≤ b.length) : val ((b.drop m).take n) = gv b m n := by rw [gv, if_pos h]
/-- How far a decoding of the reference is. -/
structure RS (w W : World) (g5 : Nat) (x : Cel) (A : Option Addr) (c : Nat) : Prop where
  cell : W.heap[g5]? = some (.cells (celA x A c) 30 (0, 0))
  res : W.heap[w.heap.size]? = some (.cells (celA cel0 none 0) 30 (0, 0))
  bel : Below w.heap.size w W
  ord : w.heap.size < g5
theorem RS.below {w W W' : World} {g5 : Nat} {x : Cel} {A : Option Addr} {c : Nat} (h : RS w W g5 x A c) (hb : Below W.heap.size W W') : RS w W' g5 x A c :=
  { cell := (hb.block _ (blk_lt h.cell)).trans h.cell, res := (hb.block _ (blk_lt h.res)).trans h.res, bel := h.bel.trans (hb.mono h.bel.size), ord := h.ord }
theorem RS.set_ {w W : World} {g5 : Nat} {x : Cel} {A : Option Addr} {c : Nat} (h : RS w W g5 x A c) (i : Nat) (u : Value) {x' : Cel} {A' : Option Addr} {c' : Nat} (he : (celA x A c).setIfInBounds i u = celA x' A' c') : RS w (W.setCell ⟨g5, i, none⟩ u) g5 x' A' c' :=
  { cell := (by rw [← he]; exact blk_set h.cell i u), res := (Below.heap_setCell W ⟨g5, i, none⟩ u _ (Nat.ne_of_lt h.ord)).trans h.res, bel := h.bel.setCell (p := ⟨g5, i, none⟩) (Nat.le_of_lt h.ord) u, ord := h.ord }
theorem RS.drew_ {w W : World} {g5 : Nat} {x : Cel} {A : Option Addr} {c : Nat} (h : RS w W g5 x A c) : RS w W.drew g5 x A c :=
  { cell := (by rw [drew_heap_]; exact h.cell), res := (by rw [drew_heap_]; exact h.res), bel := below_drew h.bel, ord := h.ord }
theorem store3 {w W : World} {g5 : Nat} {x : Cel} {A : Option Addr} {c : Nat} (h : RS w W g5 x A c) {u v z : Value} : Below w.heap.size w (((W.setCell ⟨g5, 3, none⟩ u).setCell ⟨g5, 4, none⟩ v).setCell ⟨g5, 5, none⟩ z).drew :=
  below_drew (((h.bel.setCell (p := ⟨g5, 3, none⟩) (Nat.le_of_lt h.ord) u).setCell (p := ⟨g5, 4, none⟩) (Nat.le_of_lt h.ord) v).setCell (p := ⟨g5, 5, none⟩) (Nat.le_of_lt h.ord) z)
theorem cel_setBody (x : Cel) (A A' : Option Addr) (c c' n : Nat) (l : List Int) (hn : l.length = n) : (celA x A c).setIfInBounds 10 (.slice A' n c') = celA { x with body := l } A' c' := by
  subst hn; rfl
theorem cell_in {w : World} {A : Option Addr} {b : List Int} (hr : RdB w A b) (m : Nat) (h : m < b.length) : ∃ ad, A = some ad ∧ w.cell? (ad.add m) = some (.int .u8 (gv b m 1)) := by
  obtain ⟨ad, he, hc⟩ := C_at hr m h
  exact ⟨ad, he, by rw [gv_one h]; exact hc⟩
theorem add_0 (a : Addr) : a.add 0 = a := by unfold Addr.add; split <;> simp_all
theorem add_k (a : Addr) (k : Nat) (hk : 0 < k) : a.add k = ⟨a.block, a.off + k, none⟩ := by
  unfold Addr.add; split <;> simp_all
/-- The same; what it read stands in an elder world. -/
def RDecdV (v w w' : World) (e : Ending) (r : Cel × Int × Int) : Prop := (∃ A1 c1, e = .returned (.tuple #[.agg (celA r.1 A1 c1), .int .i64 r.2.1, .int .i64 r.2.2]) ∧ RdN v A1 r.1.body.length r.1.body) ∧ Below w.heap.size w w'
/-- What a decoding of the reference leaves. -/
def RDecd (w w' : World) (e : Ending) (r : Cel × Int × Int) : Prop := (∃ A1 c1, e = .returned (.tuple #[.agg (celA r.1 A1 c1), .int .i64 r.2.1, .int .i64 r.2.2]) ∧ RdN w' A1 r.1.body.length r.1.body) ∧ Below w.heap.size w w'
def tabX18 : Bool × List (List Nat × List Nat) := (true, [([], []), ([0], [0]), ([1], [1]), ([], []), ([3], [3]), ([4, 2], [4]), ([5], [5]), ([0, 1, 2], []), ([7, 2, 5, 0, 1, 2], [2, 7]), ([0, 1, 2, 3, 4, 5, 6, 7, 8], []), ([9, 6, 8, 0, 1, 2, 3, 4, 5, 6, 7, 8], [6, 9])])
theorem tabX18_ok : rtab .any (opsOf Try.f28 18) = tabX18 := by kernel_rfl
def tabX21 : Bool × List (List Nat × List Nat) := (true, [([], []), ([0], [0]), ([1], [1]), ([2], [2]), ([], []), ([4], [4]), ([5], [5]), ([6], [6]), ([], []), ([8], [8]), ([9], [9]), ([10], [10]), ([3, 7, 11], [3, 7, 11]), ([0, 1, 2, 3, 4, 5, 6, 7, 8, 9, 10, 11, 12], []), ([13, 12, 10, 0, 1, 2, 3, 4, 5, 6, 7, 8, 9, 10, 11, 12], [12, 13])])
theorem tabX21_ok : rtab .any (opsOf Try.f28 21) = tabX21 := by kernel_rfl
def tabX27 : Bool × List (List Nat × List Nat) := (true, [([], []), ([], []), ([], []), ([2], [2]), ([0, 1, 3], [0, 1, 3]), ([4], [4]), ([5], [5]), ([], []), ([], []), ([8], [8]), ([], []), ([10], [10]), ([7, 9, 11], [7, 9, 11]), ([12, 5], [12]), ([13], [13]), ([], []), ([], []), ([16], [16]), ([], []), ([18], [18]), ([15, 17, 19], [15, 17, 19]), ([20, 13], [20]), ([21], [21]), ([0, 1, 2, 3, 4, 5, 6], []), ([23, 6, 21, 0, 1, 2, 3, 4, 5, 6], [6, 23]), ([0, 1, 2, 3, 4, 5, 6, 7, 8, 9, 10, 11, 12, 13, 14, 23, 24], []), ([25, 14, 24, 0, 1, 2, 3, 4, 5, 6, 7, 8, 9, 10, 11, 12, 13, 14, 23, 24], [14, 25]), ([0, 1, 2, 3, 4, 5, 6, 7, 8, 9, 10, 11, 12, 13, 14, 15, 16, 17, 18, 19, 20, 21, 22, 23, 24, 25, 26], []), ([27, 22, 26, 0, 1, 2, 3, 4, 5, 6, 7, 8, 9, 10, 11, 12, 13, 14, 15, 16, 17, 18, 19, 20, 21, 22, 23, 24, 25, 26], [22, 27])])
theorem tabX27_ok : rtab .any (opsOf Try.f28 27) = tabX27 := by kernel_rfl
set_option maxHeartbeats 6400000 in
set_option maxRecDepth 100000 in
theorem refdec_prb (A : Option Addr) (c : Nat) (b : List Int) (v w : World) (hv : Below v.heap.size v w) (hr : RdB v A b) (hc : b.length ≤ c) (hy : Byt b) (hl1000 : b.length ≤ 1000) (h00 : b.length ≠ 0) (hP : Aside0 (hasPlace (gv b 0 1) = true ∧ hasRef (gv b 0 1) = true ∧ hasMin (gv b 0 1) = false ∧ hasBody (gv b 0 1) = true)) (hk1 : decide (gv b 0 1 < 1) = false) (hk8 : decide (8 < gv b 0 1) = false) (nb : Nat) (hnb : Aside0 (gv b 13 1 = (nb : Int) ∧ nb ≤ 255))
    (x9 : Cel) (hx9 : Aside0 (x9 = ⟨gv b 0 1, gv b 1 2, gv b 3 4, gv b 7 1, gv b 8 1, gv b 9 2, gv b 11 2, 0, 0, 0, tk b 14 nb⟩)) (hwf : Aside0 (CelWf x9)) (res : Cel × Int × Int)
    (hres : Aside0 (res = if b.length < 14 + nb then (cel0, 0, 14) else if rightB x9 then (x9, ((14 + nb : Nat) : Int), 0) else (cel0, 0, 3))) :
    Calls Try.prog 28 #[.slice A b.length c] w fun e w' => RDecdV v w w' e res := by
  have hmx := C_max hr
  have HVW := Aside0.mk hv
  have HRV := Aside0.mk hr
  replace hr := Kd.C_below hr hv
  have HR := Aside0.mk hr
  have HY := Aside0.mk hy
  have HC := Aside0.mk hc
  obtain ⟨ad, rfl, h0⟩ := cell_in hr 0 (by omega)
  rw [add_0] at h0
  have hg0 := gv_range hy 0 1
  have e0 : IntKind.i64.wrap (gv b 0 1) = gv b 0 1 := IntWalk.i64_in _ (by omega)
  clear hr hy hc hg0 hv
  have hb0 : (b.length : Int) ≠ 0 := by omega
  have fb0 : ((b.length : Int) == 0) = false := beq_eq_false_iff_ne.2 hb0
  have hbi : (0 : Int) < (b.length : Int) := by omega
  go_enter Try.func28, Try.ntmps28
  go_upto_region 3 with (fail)
  obtain ⟨W0, hW0⟩ : ∃ W0, W0 = w.alloc (.cells #[.int .i64 0, .int .u64 0, .int .i64 0, .int .i64 0, .int .i64 0, .int .i64 0, .int .u64 0, .int .i64 0, .int .i64 0, .int .i64 0, .slice none 0 0] 30) := ⟨_, rfl⟩
  rw [← hW0]
  have hb1 : Below w.heap.size w W0 := by rw [hW0]; exact below_alloc (Below.refl _ _) _
  have hres0 : W0.heap[w.heap.size]? = some (.cells (celA cel0 none 0) 30 (0, 0)) := by rw [hW0]; exact blk_new _ _
  have h0' := pw_cell_below hb1 h0
  have hsz : W0.heap.size = w.heap.size + 1 := by rw [hW0]; simp
  have HS0 := Aside0.mk (And.intro hb1 (And.intro hres0 hsz))
  clear hW0 hb1 hres0 h0 hsz
  by_cases hlt : b.length < 14
  · have HE := Aside0.mk (show res = (cel0, 0, 14) by rw [hres.out, if_pos (by omega)])
    go_upto_region 17 with (go_at_call 38; go_must (refine (refhas_any (gv b 0 1) _).mono ?_; rintro e w3 ⟨rfl, rfl⟩; rw [hP.out.1, hP.out.2.1, hP.out.2.2.1, hP.out.2.2.2]))
    obtain ⟨W1, hW1⟩ : ∃ W1, W1 = W0.alloc (.cells #[.int .i64 (gv b 0 1), .int .u64 0, .int .i64 0, .int .i64 0, .int .i64 0, .int .i64 0, .int .u64 0, .int .i64 0, .int .i64 0, .int .i64 0, .slice none 0 0] 30) := ⟨_, rfl⟩
    rw [← hW1]
    have HD := Aside0.mk (show RS w W1 W0.heap.size ⟨gv b 0 1, 0, 0, 0, 0, 0, 0, 0, 0, 0, []⟩ none 0 from { cell := (by rw [hW1]; exact blk_new _ _), res := (by rw [hW1]; exact blk_alloc HS0.out.2.1 _), bel := (by rw [hW1]; exact HS0.out.1.alloc (by rw [HS0.out.2.2]; omega) _), ord := (by rw [HS0.out.2.2]; omega) })
    obtain ⟨g5, hg5⟩ : ∃ g, g = W0.heap.size := ⟨_, rfl⟩
    rw [← hg5] at HD ⊢
    clear hW1 hg5 h0'
    have hxr := HD.out.res
    have t0 : W1.cell? ⟨w.heap.size, 0, none⟩ = some (.int .i64 0) := blk_cell hxr 0
    have t1 : W1.cell? ⟨w.heap.size, 1, none⟩ = some (.int .u64 0) := blk_cell hxr 1
    have t2 : W1.cell? ⟨w.heap.size, 2, none⟩ = some (.int .i64 0) := blk_cell hxr 2
    have t3 : W1.cell? ⟨w.heap.size, 3, none⟩ = some (.int .i64 0) := blk_cell hxr 3
    have t4 : W1.cell? ⟨w.heap.size, 4, none⟩ = some (.int .i64 0) := blk_cell hxr 4
    have t5 : W1.cell? ⟨w.heap.size, 5, none⟩ = some (.int .i64 0) := blk_cell hxr 5
    have t6 : W1.cell? ⟨w.heap.size, 6, none⟩ = some (.int .u64 0) := blk_cell hxr 6
    have t7 : W1.cell? ⟨w.heap.size, 7, none⟩ = some (.int .i64 0) := blk_cell hxr 7
    have t8 : W1.cell? ⟨w.heap.size, 8, none⟩ = some (.int .i64 0) := blk_cell hxr 8
    have t9 : W1.cell? ⟨w.heap.size, 9, none⟩ = some (.int .i64 0) := blk_cell hxr 9
    have t10 : W1.cell? ⟨w.heap.size, 10, none⟩ = some (.slice none 0 0) := blk_cell hxr 10
    have zt0 := blk_frozen hxr 0
    have zt1 := blk_frozen hxr 1
    have zt2 := blk_frozen hxr 2
    have zt3 := blk_frozen hxr 3
    have zt4 := blk_frozen hxr 4
    have zt5 := blk_frozen hxr 5
    have zt6 := blk_frozen hxr 6
    have zt7 := blk_frozen hxr 7
    have zt8 := blk_frozen hxr 8
    have zt9 := blk_frozen hxr 9
    have zt10 := blk_frozen hxr 10
    clear hxr
    go_wp2
    obtain ⟨W9, hW9⟩ : ∃ W9, W9 = (((((((((((W1.setCell ⟨w.heap.size, 0, none⟩ (.int .i64 0)).setCell ⟨w.heap.size, 1, none⟩ (.int .u64 0)).setCell ⟨w.heap.size, 2, none⟩ (.int .i64 0)).setCell ⟨w.heap.size, 3, none⟩ (.int .i64 0)).setCell ⟨w.heap.size, 4, none⟩ (.int .i64 0)).setCell ⟨w.heap.size, 5, none⟩ (.int .i64 0)).setCell ⟨w.heap.size, 6, none⟩ (.int .u64 0)).setCell ⟨w.heap.size, 7, none⟩ (.int .i64 0)).setCell ⟨w.heap.size, 8, none⟩ (.int .i64 0)).setCell ⟨w.heap.size, 9, none⟩ (.int .i64 0)).setCell ⟨w.heap.size, 10, none⟩ (.slice none 0 0)) := ⟨_, rfl⟩
    rw [← hW9]
    have hr9 : W9.heap[w.heap.size]? = some (.cells (celA cel0 none 0) 30 (0, 0)) := by rw [hW9]; exact putCell_at (x := cel0) (A := none) (c := 0) HD.out.res
    have hb9 : Below w.heap.size w W9 := by rw [hW9]; exact putCell_below (x := cel0) (A := none) (c := 0) HD.out.bel (Nat.le_refl _)
    clear hW9 t0 t1 t2 t3 t4 t5 t6 t7 t8 t9 t10
    have t0 : W9.cell? ⟨w.heap.size, 0, none⟩ = some (.int .i64 0) := blk_cell hr9 0
    have t1 : W9.cell? ⟨w.heap.size, 1, none⟩ = some (.int .u64 0) := blk_cell hr9 1
    have t2 : W9.cell? ⟨w.heap.size, 2, none⟩ = some (.int .i64 0) := blk_cell hr9 2
    have t3 : W9.cell? ⟨w.heap.size, 3, none⟩ = some (.int .i64 0) := blk_cell hr9 3
    have t4 : W9.cell? ⟨w.heap.size, 4, none⟩ = some (.int .i64 0) := blk_cell hr9 4
    have t5 : W9.cell? ⟨w.heap.size, 5, none⟩ = some (.int .i64 0) := blk_cell hr9 5
    have t6 : W9.cell? ⟨w.heap.size, 6, none⟩ = some (.int .u64 0) := blk_cell hr9 6
    have t7 : W9.cell? ⟨w.heap.size, 7, none⟩ = some (.int .i64 0) := blk_cell hr9 7
    have t8 : W9.cell? ⟨w.heap.size, 8, none⟩ = some (.int .i64 0) := blk_cell hr9 8
    have t9 : W9.cell? ⟨w.heap.size, 9, none⟩ = some (.int .i64 0) := blk_cell hr9 9
    have t10 : W9.cell? ⟨w.heap.size, 10, none⟩ = some (.slice none 0 0) := blk_cell hr9 10
    refine bodyPost_ret (v := .tuple #[.agg (celA cel0 none 0), .int .i64 0, .int .i64 14]) (by simp [results, Try.results28, go_sem, cel0, t0, t1, t2, t3, t4, t5, t6, t7, t8, t9, t10]) rfl ?_
    rw [HE.out]
    exact ⟨⟨none, 0, rfl, RdB_nil _⟩, hb9⟩
  obtain ⟨B1, q1, r1⟩ := cutG HR.out HC.out 1 2 1 3 rfl rfl (by omega)
  have R1 := Aside0.mk r1
  have hg1 := gv_range HY.out 1 2
  have GV1 := Aside0.mk (gv_val (b := b) (m := 1) (n := 2) (by omega))
  clear r1 hg1
  obtain ⟨B3, q3, r3⟩ := cutG HR.out HC.out 3 4 3 7 rfl rfl (by omega)
  have R3 := Aside0.mk r3
  have hg3 := gv_range HY.out 3 4
  have GV3 := Aside0.mk (gv_val (b := b) (m := 3) (n := 4) (by omega))
  have i3 : IntKind.i64.wrap (gv b 3 4) = gv b 3 4 := IntWalk.i64_in _ (by omega)
  clear r3 hg3
  obtain ⟨B9, q9, r9⟩ := cutG HR.out HC.out 9 2 9 11 rfl rfl (by omega)
  have R9 := Aside0.mk r9
  have hg9 := gv_range HY.out 9 2
  have GV9 := Aside0.mk (gv_val (b := b) (m := 9) (n := 2) (by omega))
  have i9 : IntKind.i64.wrap (gv b 9 2) = gv b 9 2 := IntWalk.i64_in _ (by omega)
  clear r9 hg9
  obtain ⟨B11, q11, r11⟩ := cutG HR.out HC.out 11 2 11 13 rfl rfl (by omega)
  have R11 := Aside0.mk r11
  have hg11 := gv_range HY.out 11 2
  have GV11 := Aside0.mk (gv_val (b := b) (m := 11) (n := 2) (by omega))
  clear r11 hg11
  obtain ⟨ad7, he7, hb7⟩ := cell_in HR.out 7 (by omega)
  obtain rfl : ad = ad7 := by simpa using he7
  rw [add_k _ _ (by decide)] at hb7
  have HB7 := Aside0.mk hb7
  have hg7 := gv_range HY.out 7 1
  have i7 : IntKind.i64.wrap (gv b 7 1) = gv b 7 1 := IntWalk.i64_in _ (by omega)
  have hq7 : (7 : Int) < (b.length : Int) := by omega
  clear he7 hb7 hg7
  obtain ⟨ad8, he8, hb8⟩ := cell_in HR.out 8 (by omega)
  obtain rfl : ad = ad8 := by simpa using he8
  rw [add_k _ _ (by decide)] at hb8
  have HB8 := Aside0.mk hb8
  have hg8 := gv_range HY.out 8 1
  have i8 : IntKind.i64.wrap (gv b 8 1) = gv b 8 1 := IntWalk.i64_in _ (by omega)
  have hq8 : (8 : Int) < (b.length : Int) := by omega
  clear he8 hb8 hg8
  obtain ⟨adb, heb, hbb⟩ := cell_in HR.out 13 (by omega)
  obtain rfl : ad = adb := by simpa using heb
  rw [add_k _ _ (by decide), hnb.out.1] at hbb
  have HBB := Aside0.mk hbb
  have hqb : (13 : Int) < (b.length : Int) := by omega
  have inb : IntKind.i64.wrap (nb : Int) = (nb : Int) := IntWalk.i64_in _ (by have := hnb.out.2; omega)
  have hnb255 : nb ≤ 255 := hnb.out.2
  clear heb hbb
  have HLEN := Aside0.mk hlt
  have hlt' : ¬ (b.length : Int) < 14 := by omega
  clear hlt
  go_upto_region 18 with (go_at_call 38; go_must (refine (refhas_any (gv b 0 1) _).mono ?_; rintro e w3 ⟨rfl, rfl⟩; rw [hP.out.1, hP.out.2.1, hP.out.2.2.1, hP.out.2.2.2]))
  obtain ⟨W1, hW1⟩ : ∃ W1, W1 = W0.alloc (.cells #[.int .i64 (gv b 0 1), .int .u64 0, .int .i64 0, .int .i64 0, .int .i64 0, .int .i64 0, .int .u64 0, .int .i64 0, .int .i64 0, .int .i64 0, .slice none 0 0] 30) := ⟨_, rfl⟩
  rw [← hW1]
  have HD := Aside0.mk (show RS w W1 W0.heap.size ⟨gv b 0 1, 0, 0, 0, 0, 0, 0, 0, 0, 0, []⟩ none 0 from { cell := (by rw [hW1]; exact blk_new _ _), res := (by rw [hW1]; exact blk_alloc HS0.out.2.1 _), bel := (by rw [hW1]; exact HS0.out.1.alloc (by rw [HS0.out.2.2]; omega) _), ord := (by rw [HS0.out.2.2]; omega) })
  obtain ⟨g5, hg5⟩ : ∃ g, g = W0.heap.size := ⟨_, rfl⟩
  rw [← hg5] at HD ⊢
  clear hW1 hg5 h0'
  have hx5 := HD.out.cell
  obtain ⟨c0, c1, c2, c3, c4, c5, c6, c7, c8, c9⟩ := cel_at (x := ⟨gv b 0 1, 0, 0, 0, 0, 0, 0, 0, 0, 0, []⟩) (A := none) (c := 0) hx5
  have c10 : W1.cell? ⟨g5, 10, none⟩ = some (.slice none 0 0) := blk_cell hx5 10
  (try simp only at c0 c1 c2 c3 c4 c5 c6 c7 c8 c9)
  have z1 := blk_frozen hx5 1
  have z2 := blk_frozen hx5 2
  clear hx5
  go_wp2_with (fail)
  have HD0 := HD
  refine start_ (n := 11) (S := fun w' => True) (ds := []) #[false, false, false, false, false, false, false, false, false, false, false] (by kernel_rfl) rfl rfl trivial (fun hHeld => ?_); refine with_tab tabX18_ok (fun HT_ => ?_)
  have hb : Below W1.heap.size W1 W1.drew := below_drew (Below.refl _ _)
  replace HD := Aside0.mk (HD.out.below hb)
  clear hb
  refine pure_ (i := 0) (N := some 56) (v := ?_) (a' := ?_) #[true, false, false, false, false, false, false, false, false, false, false] rfl rfl (any_of HT_.out (by kernel_rfl)) (fun _ _ _ h => h) (Or.inl ⟨by rfl, ?_⟩) ?_ ?_
  rotate_left
  · intro w'
    go_simp
    with_reducible rfl
  rotate_left
  · simp only [Act.put, List.setIfInBounds_toArray, List.set_cons_zero, List.set_cons_succ]
    rfl
  refine pure_ (i := 1) (N := some 57) (v := ?_) (a' := ?_) #[true, true, false, false, false, false, false, false, false, false, false] rfl rfl (any_of HT_.out (by kernel_rfl)) (fun _ _ _ h => h) (Or.inl ⟨by rfl, ?_⟩) ?_ ?_
  rotate_left
  · intro w'
    go_simp
    with_reducible rfl
  rotate_left
  · simp only [Act.put, List.setIfInBounds_toArray, List.set_cons_zero, List.set_cons_succ]
    rfl
  refine pure_ (i := 3) (N := some 59) (v := ?_) (a' := ?_) #[true, true, false, true, false, false, false, false, false, false, false] rfl rfl (any_of HT_.out (by kernel_rfl)) (fun _ _ _ h => h) (Or.inl ⟨by rfl, ?_⟩) ?_ ?_
  rotate_left
  · intro w'
    go_simp
    with_reducible rfl
  rotate_left
  · simp only [Act.put, List.setIfInBounds_toArray, List.set_cons_zero, List.set_cons_succ]
    rfl
  refine pure_ (i := 4) (N := some 60) (v := ?_) (a' := ?_) #[true, true, false, true, true, false, false, false, false, false, false] rfl rfl (any_of HT_.out (by kernel_rfl)) (fun _ _ _ h => h) (Or.inl ⟨by rfl, ?_⟩) ?_ ?_
  rotate_left
  · intro w'
    go_simp
    with_reducible rfl
  rotate_left
  · simp only [Act.put, List.setIfInBounds_toArray, List.set_cons_zero, List.set_cons_succ]
    rfl
  refine one_ (i := 2) (N := some 58) #[true, true, true, true, true, false, false, false, false, false, false] rfl rfl (one_of HT_.out (by kernel_rfl)) (by decide) (fun Kq_ hK_ => ?_)
  refine goes_ Try.func42 (by kernel_rfl) rfl #[.slice B1 2 (c - 1)] (by rfl) rfl rfl (by (try simp only [List.map_toArray, List.map_cons, List.map_nil]); first | done | rfl) ?_
  with_reducible refine (refget_any B1 2 (c - 1) _ _ (Kd.C_below R1.out HD.out.bel) ((HY.out.drop _).take _) (by decide)).mono ?_
  rintro e w' ⟨rfl, rfl⟩
  refine ⟨_, rfl, ?_⟩
  rw [GV1.out]
  refine hK_.out _ _ trivial (fun hHeld => ?_)
  clear hK_ Kq_
  refine norm_ (a' := ?_) ?_ ?_
  rotate_left
  · show Act.put _ (some 58) _ = _
    simp only [Act.put, List.setIfInBounds_toArray, List.set_cons_zero, List.set_cons_succ]
    rfl
  refine pure_ (i := 7) (N := some 63) (v := ?_) (a' := ?_) #[true, true, true, true, true, false, false, true, false, false, false] rfl rfl (any_of HT_.out (by kernel_rfl)) (fun _ _ _ h => h) (Or.inl ⟨by rfl, ?_⟩) ?_ ?_
  rotate_left
  · intro w'
    go_simp
    with_reducible rfl
  rotate_left
  · simp only [Act.put, List.setIfInBounds_toArray, List.set_cons_zero, List.set_cons_succ]
    rfl
  refine one_ (i := 5) (N := some 61) #[true, true, true, true, true, true, false, true, false, false, false] rfl rfl (one_of HT_.out (by kernel_rfl)) (by decide) (fun Kq_ hK_ => ?_)
  refine goes_ Try.func42 (by kernel_rfl) rfl #[.slice B3 4 (c - 3)] (by rfl) rfl rfl (by (try simp only [List.map_toArray, List.map_cons, List.map_nil]); first | done | rfl) ?_
  with_reducible refine (refget_any B3 4 (c - 3) _ _ (Kd.C_below R3.out HD.out.bel) ((HY.out.drop _).take _) (by decide)).mono ?_
  rintro e w' ⟨rfl, rfl⟩
  refine ⟨_, rfl, ?_⟩
  rw [GV3.out]
  refine hK_.out _ _ trivial (fun hHeld => ?_)
  clear hK_ Kq_
  refine norm_ (a' := ?_) ?_ ?_
  rotate_left
  · show Act.put _ (some 61) _ = _
    simp only [Act.put, List.setIfInBounds_toArray, List.set_cons_zero, List.set_cons_succ]
    rfl
  refine pure_ (i := 6) (N := some 62) (v := ?_) (a' := ?_) #[true, true, true, true, true, true, true, true, false, false, false] rfl rfl (any_of HT_.out (by kernel_rfl)) (fun _ _ _ h => h) (Or.inl ⟨by rfl, ?_⟩) ?_ ?_
  rotate_left
  · intro w'
    go_simp
    with_reducible rfl
  rotate_left
  · simp only [Act.put, List.setIfInBounds_toArray, List.set_cons_zero, List.set_cons_succ]
    rfl
  refine one_ (i := 8) (N := none) #[true, true, true, true, true, true, true, true, true, false, false] rfl rfl (one_of HT_.out (by kernel_rfl)) (by decide) (fun Kq_ hK_ => ?_)
  refine skip_ (w1 := ?_) (by rfl) rfl ?_ ?_
  rotate_left
  · go_simp
    first | done | rfl
  refine hK_.out _ _ trivial (fun hHeld => ?_)
  clear hK_ Kq_
  refine pure_ (i := 9) (N := some 64) (v := ?_) (a' := ?_) #[true, true, true, true, true, true, true, true, true, true, false] rfl rfl (any_of HT_.out (by kernel_rfl)) (fun _ _ _ h => h) (Or.inl ⟨by rfl, ?_⟩) ?_ ?_
  rotate_left
  · intro w'
    go_simp
    with_reducible rfl
  rotate_left
  · simp only [Act.put, List.setIfInBounds_toArray, List.set_cons_zero, List.set_cons_succ]
    rfl
  refine one_ (i := 10) (N := none) #[true, true, true, true, true, true, true, true, true, true, true] rfl rfl (one_of HT_.out (by kernel_rfl)) (by decide) (fun Kq_ hK_ => ?_)
  refine skip_ (w1 := ?_) (by rfl) rfl ?_ ?_
  rotate_left
  · go_simp
    first | done | rfl
  refine hK_.out _ _ trivial (fun hHeld => ?_)
  clear hK_ Kq_
  refine done_ (done_of HT_.out (by kernel_rfl)) ?_
  clear HT_ hHeld
  go_upto_region 21 with (fail)
  obtain ⟨V18, hV18⟩ : ∃ W, W = ((W1.setCell ⟨g5, 1, none⟩ (.int .u64 (gv b 1 2))).setCell ⟨g5, 2, none⟩ (.int .i64 (gv b 3 4))).drew := ⟨_, rfl⟩
  rw [← hV18]
  replace HD := Aside0.mk (show RS w V18 g5 ⟨gv b 0 1, gv b 1 2, gv b 3 4, 0, 0, 0, 0, 0, 0, 0, []⟩ none 0 by rw [hV18]; exact RS.drew_ ((HD0.out.set_ 1 (.int .u64 (gv b 1 2)) (x' := ⟨gv b 0 1, gv b 1 2, 0, 0, 0, 0, 0, 0, 0, 0, []⟩) (A' := none) (c' := 0) rfl).set_ 2 (.int .i64 (gv b 3 4)) (x' := ⟨gv b 0 1, gv b 1 2, gv b 3 4, 0, 0, 0, 0, 0, 0, 0, []⟩) (A' := none) (c' := 0) rfl))
  clear hV18 c0 c1 c2 c3 c4 c5 c6 c7 c8 c9 c10 z1 z2
  have hx5 := HD.out.cell
  obtain ⟨c0, c1, c2, c3, c4, c5, c6, c7, c8, c9⟩ := cel_at (x := ⟨gv b 0 1, gv b 1 2, gv b 3 4, 0, 0, 0, 0, 0, 0, 0, []⟩) (A := none) (c := 0) hx5
  have c10 : V18.cell? ⟨g5, 10, none⟩ = some (.slice none 0 0) := blk_cell hx5 10
  (try simp only at c0 c1 c2 c3 c4 c5 c6 c7 c8 c9)
  have z3 := blk_frozen hx5 3
  have z4 := blk_frozen hx5 4
  have z5 := blk_frozen hx5 5
  clear hx5
  go_wp2_with (fail)
  have HD0 := HD
  refine start_ (n := 15) (S := fun w' => w'.cell? ⟨ad.block, ad.off + 7, none⟩ = some (.int .u8 (gv b 7 1)) ∧ w'.cell? ⟨ad.block, ad.off + 8, none⟩ = some (.int .u8 (gv b 8 1))) (ds := []) #[false, false, false, false, false, false, false, false, false, false, false, false, false, false, false] (by kernel_rfl) rfl rfl ⟨pw_cell_below (below_drew HD.out.bel) HB7.out, pw_cell_below (below_drew HD.out.bel) HB8.out⟩ (fun hHeld => ?_); refine with_tab tabX21_ok (fun HT_ => ?_)
  have hb : Below V18.heap.size V18 V18.drew := below_drew (Below.refl _ _)
  replace HD := Aside0.mk (HD.out.below hb)
  clear hb
  refine pure_ (i := 0) (N := some 66) (v := ?_) (a' := ?_) #[true, false, false, false, false, false, false, false, false, false, false, false, false, false, false] rfl rfl (any_of HT_.out (by kernel_rfl)) (fun _ _ _ h => h) (Or.inl ⟨by rfl, ?_⟩) ?_ ?_
  rotate_left
  · intro w'
    go_simp
    with_reducible rfl
  rotate_left
  · simp only [Act.put, List.setIfInBounds_toArray, List.set_cons_zero, List.set_cons_succ]
    rfl
  refine pure_ (i := 1) (N := some 67) (v := ?_) (a' := ?_) #[true, true, false, false, false, false, false, false, false, false, false, false, false, false, false] rfl rfl (any_of HT_.out (by kernel_rfl)) (fun _ _ _ h => h) (Or.inl ⟨by rfl, ?_⟩) ?_ ?_
  rotate_left
  · intro w'
    go_simp
    with_reducible rfl
  rotate_left
  · simp only [Act.put, List.setIfInBounds_toArray, List.set_cons_zero, List.set_cons_succ]
    rfl
  refine take_ (i := 2) (N := some 68) (v := ?_) (a' := ?_) #[true, true, true, false, false, false, false, false, false, false, false, false, false, false, false] rfl rfl (take_of HT_.out (by kernel_rfl)) (fun _ _ _ h => h) (Or.inl ⟨by rfl, ?_⟩) hHeld ?_ ?_
  rotate_left
  · intro w' hw'
    obtain ⟨s0, s1⟩ := hw'
    go_simp
    with_reducible rfl
  rotate_left
  · simp only [Act.put, List.setIfInBounds_toArray, List.set_cons_zero, List.set_cons_succ]
    rfl
  refine pure_ (i := 3) (N := some 69) (v := ?_) (a' := ?_) #[true, true, true, true, false, false, false, false, false, false, false, false, false, false, false] rfl rfl (any_of HT_.out (by kernel_rfl)) (fun _ _ _ h => h) (Or.inl ⟨by rfl, ?_⟩) ?_ ?_
  rotate_left
  · intro w'
    go_simp
    with_reducible rfl
  rotate_left
  · simp only [Act.put, List.setIfInBounds_toArray, List.set_cons_zero, List.set_cons_succ]
    rfl
  refine pure_ (i := 4) (N := some 70) (v := ?_) (a' := ?_) #[true, true, true, true, true, false, false, false, false, false, false, false, false, false, false] rfl rfl (any_of HT_.out (by kernel_rfl)) (fun _ _ _ h => h) (Or.inl ⟨by rfl, ?_⟩) ?_ ?_
  rotate_left
  · intro w'
    go_simp
    with_reducible rfl
  rotate_left
  · simp only [Act.put, List.setIfInBounds_toArray, List.set_cons_zero, List.set_cons_succ]
    rfl
  refine pure_ (i := 5) (N := some 71) (v := ?_) (a' := ?_) #[true, true, true, true, true, true, false, false, false, false, false, false, false, false, false] rfl rfl (any_of HT_.out (by kernel_rfl)) (fun _ _ _ h => h) (Or.inl ⟨by rfl, ?_⟩) ?_ ?_
  rotate_left
  · intro w'
    go_simp
    with_reducible rfl
  rotate_left
  · simp only [Act.put, List.setIfInBounds_toArray, List.set_cons_zero, List.set_cons_succ]
    rfl
  refine take_ (i := 6) (N := some 72) (v := ?_) (a' := ?_) #[true, true, true, true, true, true, true, false, false, false, false, false, false, false, false] rfl rfl (take_of HT_.out (by kernel_rfl)) (fun _ _ _ h => h) (Or.inl ⟨by rfl, ?_⟩) hHeld ?_ ?_
  rotate_left
  · intro w' hw'
    obtain ⟨s0, s1⟩ := hw'
    go_simp
    with_reducible rfl
  rotate_left
  · simp only [Act.put, List.setIfInBounds_toArray, List.set_cons_zero, List.set_cons_succ]
    rfl
  refine pure_ (i := 7) (N := some 73) (v := ?_) (a' := ?_) #[true, true, true, true, true, true, true, true, false, false, false, false, false, false, false] rfl rfl (any_of HT_.out (by kernel_rfl)) (fun _ _ _ h => h) (Or.inl ⟨by rfl, ?_⟩) ?_ ?_
  rotate_left
  · intro w'
    go_simp
    with_reducible rfl
  rotate_left
  · simp only [Act.put, List.setIfInBounds_toArray, List.set_cons_zero, List.set_cons_succ]
    rfl
  refine pure_ (i := 8) (N := some 74) (v := ?_) (a' := ?_) #[true, true, true, true, true, true, true, true, true, false, false, false, false, false, false] rfl rfl (any_of HT_.out (by kernel_rfl)) (fun _ _ _ h => h) (Or.inl ⟨by rfl, ?_⟩) ?_ ?_
  rotate_left
  · intro w'
    go_simp
    with_reducible rfl
  rotate_left
  · simp only [Act.put, List.setIfInBounds_toArray, List.set_cons_zero, List.set_cons_succ]
    rfl
  refine pure_ (i := 9) (N := some 75) (v := ?_) (a' := ?_) #[true, true, true, true, true, true, true, true, true, true, false, false, false, false, false] rfl rfl (any_of HT_.out (by kernel_rfl)) (fun _ _ _ h => h) (Or.inl ⟨by rfl, ?_⟩) ?_ ?_
  rotate_left
  · intro w'
    go_simp
    with_reducible rfl
  rotate_left
  · simp only [Act.put, List.setIfInBounds_toArray, List.set_cons_zero, List.set_cons_succ]
    rfl
  refine one_ (i := 10) (N := some 76) #[true, true, true, true, true, true, true, true, true, true, true, false, false, false, false] rfl rfl (one_of HT_.out (by kernel_rfl)) (by decide) (fun Kq_ hK_ => ?_)
  refine goes_ Try.func42 (by kernel_rfl) rfl #[.slice B9 2 (c - 9)] (by rfl) rfl rfl (by (try simp only [List.map_toArray, List.map_cons, List.map_nil]); first | done | rfl) ?_
  with_reducible refine (refget_any B9 2 (c - 9) _ _ (Kd.C_below R9.out HD.out.bel) ((HY.out.drop _).take _) (by decide)).mono ?_
  rintro e w' ⟨rfl, rfl⟩
  refine ⟨_, rfl, ?_⟩
  rw [GV9.out]
  refine hK_.out _ _ ⟨pw_cell_below HD.out.bel HB7.out, pw_cell_below HD.out.bel HB8.out⟩ (fun hHeld => ?_)
  clear hK_ Kq_
  refine norm_ (a' := ?_) ?_ ?_
  rotate_left
  · show Act.put _ (some 76) _ = _
    simp only [Act.put, List.setIfInBounds_toArray, List.set_cons_zero, List.set_cons_succ]
    rfl
  refine pure_ (i := 11) (N := some 77) (v := ?_) (a' := ?_) #[true, true, true, true, true, true, true, true, true, true, true, true, false, false, false] rfl rfl (any_of HT_.out (by kernel_rfl)) (fun _ _ _ h => h) (Or.inl ⟨by rfl, ?_⟩) ?_ ?_
  rotate_left
  · intro w'
    go_simp
    with_reducible rfl
  rotate_left
  · simp only [Act.put, List.setIfInBounds_toArray, List.set_cons_zero, List.set_cons_succ]
    rfl
  refine pure_ (i := 12) (N := some 78) (v := ?_) (a' := ?_) #[true, true, true, true, true, true, true, true, true, true, true, true, true, false, false] rfl rfl (any_of HT_.out (by kernel_rfl)) (fun _ _ _ h => h) (Or.inl ⟨by rfl, ?_⟩) ?_ ?_
  rotate_left
  · intro w'
    go_simp
    with_reducible rfl
  rotate_left
  · simp only [Act.put, List.setIfInBounds_toArray, List.set_cons_zero, List.set_cons_succ]
    rfl
  refine pure_ (i := 13) (N := some 79) (v := ?_) (a' := ?_) #[true, true, true, true, true, true, true, true, true, true, true, true, true, true, false] rfl rfl (any_of HT_.out (by kernel_rfl)) (fun _ _ _ h => h) (Or.inl ⟨by rfl, ?_⟩) ?_ ?_
  rotate_left
  · intro w'
    go_simp
    with_reducible rfl
  rotate_left
  · simp only [Act.put, List.setIfInBounds_toArray, List.set_cons_zero, List.set_cons_succ]
    rfl
  refine one_ (i := 14) (N := none) #[true, true, true, true, true, true, true, true, true, true, true, true, true, true, true] rfl rfl (one_of HT_.out (by kernel_rfl)) (by decide) (fun Kq_ hK_ => ?_)
  refine skip_ (w1 := ?_) (by rfl) rfl ?_ ?_
  rotate_left
  · go_simp
    first | done | rfl
  refine hK_.out _ _ ⟨pw_cell_below (store3 HD0.out) HB7.out, pw_cell_below (store3 HD0.out) HB8.out⟩ (fun hHeld => ?_)
  clear hK_ Kq_
  refine done_ (done_of HT_.out (by kernel_rfl)) ?_
  clear HT_ hHeld
  go_upto_region 24 with (fail)
  obtain ⟨V21, hV21⟩ : ∃ W, W = (((V18.setCell ⟨g5, 3, none⟩ (.int .i64 (gv b 7 1))).setCell ⟨g5, 4, none⟩ (.int .i64 (gv b 8 1))).setCell ⟨g5, 5, none⟩ (.int .i64 (gv b 9 2))).drew := ⟨_, rfl⟩
  rw [← hV21]
  replace HD := Aside0.mk (show RS w V21 g5 ⟨gv b 0 1, gv b 1 2, gv b 3 4, gv b 7 1, gv b 8 1, gv b 9 2, 0, 0, 0, 0, []⟩ none 0 by rw [hV21]; exact RS.drew_ (((HD0.out.set_ 3 (.int .i64 (gv b 7 1)) (x' := ⟨gv b 0 1, gv b 1 2, gv b 3 4, gv b 7 1, 0, 0, 0, 0, 0, 0, []⟩) (A' := none) (c' := 0) rfl).set_ 4 (.int .i64 (gv b 8 1)) (x' := ⟨gv b 0 1, gv b 1 2, gv b 3 4, gv b 7 1, gv b 8 1, 0, 0, 0, 0, 0, []⟩) (A' := none) (c' := 0) rfl).set_ 5 (.int .i64 (gv b 9 2)) (x' := ⟨gv b 0 1, gv b 1 2, gv b 3 4, gv b 7 1, gv b 8 1, gv b 9 2, 0, 0, 0, 0, []⟩) (A' := none) (c' := 0) rfl))
  clear hV21 c0 c1 c2 c3 c4 c5 c6 c7 c8 c9 c10 z3 z4 z5
  have hx5 := HD.out.cell
  obtain ⟨c0, c1, c2, c3, c4, c5, c6, c7, c8, c9⟩ := cel_at (x := ⟨gv b 0 1, gv b 1 2, gv b 3 4, gv b 7 1, gv b 8 1, gv b 9 2, 0, 0, 0, 0, []⟩) (A := none) (c := 0) hx5
  have c10 : V21.cell? ⟨g5, 10, none⟩ = some (.slice none 0 0) := blk_cell hx5 10
  (try simp only at c0 c1 c2 c3 c4 c5 c6 c7 c8 c9)
  have z6 := blk_frozen hx5 6
  clear hx5
  go_upto_region 30 with (go_at_call 42; go_must (refine (refget_any B11 2 (c - 11) _ _ (Kd.C_below R11.out HD.out.bel) ((HY.out.drop _).take _) (by decide)).mono ?_; rintro e w' ⟨rfl, rfl⟩; rw [GV11.out]))
  obtain ⟨V24, hV24⟩ : ∃ W, W = (V21.setCell ⟨g5, 6, none⟩ (.int .u64 (gv b 11 2))) := ⟨_, rfl⟩
  rw [← hV24]
  replace HD := Aside0.mk (show RS w V24 g5 ⟨gv b 0 1, gv b 1 2, gv b 3 4, gv b 7 1, gv b 8 1, gv b 9 2, gv b 11 2, 0, 0, 0, []⟩ none 0 by rw [hV24]; exact (HD.out.set_ 6 (.int .u64 (gv b 11 2)) (x' := ⟨gv b 0 1, gv b 1 2, gv b 3 4, gv b 7 1, gv b 8 1, gv b 9 2, gv b 11 2, 0, 0, 0, []⟩) (A' := none) (c' := 0) rfl))
  clear hV24 c0 c1 c2 c3 c4 c5 c6 c7 c8 c9 c10 z6
  have hbw := pw_cell_below HD.out.bel HBB.out
  have hx5 := HD.out.cell
  obtain ⟨c0, c1, c2, c3, c4, c5, c6, c7, c8, c9⟩ := cel_at (x := ⟨gv b 0 1, gv b 1 2, gv b 3 4, gv b 7 1, gv b 8 1, gv b 9 2, gv b 11 2, 0, 0, 0, []⟩) (A := none) (c := 0) hx5
  have c10 : V24.cell? ⟨g5, 10, none⟩ = some (.slice none 0 0) := blk_cell hx5 10
  (try simp only at c0 c1 c2 c3 c4 c5 c6 c7 c8 c9)
  have z10 := blk_frozen hx5 10
  clear hx5
  by_cases hl2 : b.length < 14 + nb
  · have HE := Aside0.mk (show res = (cel0, 0, 14) by rw [hres.out, if_pos hl2])
    have hl2' : (b.length : Int) < 14 + (nb : Int) := by omega
    clear hl2
    have hxr := HD.out.res
    have t0 : V24.cell? ⟨w.heap.size, 0, none⟩ = some (.int .i64 0) := blk_cell hxr 0
    have t1 : V24.cell? ⟨w.heap.size, 1, none⟩ = some (.int .u64 0) := blk_cell hxr 1
    have t2 : V24.cell? ⟨w.heap.size, 2, none⟩ = some (.int .i64 0) := blk_cell hxr 2
    have t3 : V24.cell? ⟨w.heap.size, 3, none⟩ = some (.int .i64 0) := blk_cell hxr 3
    have t4 : V24.cell? ⟨w.heap.size, 4, none⟩ = some (.int .i64 0) := blk_cell hxr 4
    have t5 : V24.cell? ⟨w.heap.size, 5, none⟩ = some (.int .i64 0) := blk_cell hxr 5
    have t6 : V24.cell? ⟨w.heap.size, 6, none⟩ = some (.int .u64 0) := blk_cell hxr 6
    have t7 : V24.cell? ⟨w.heap.size, 7, none⟩ = some (.int .i64 0) := blk_cell hxr 7
    have t8 : V24.cell? ⟨w.heap.size, 8, none⟩ = some (.int .i64 0) := blk_cell hxr 8
    have t9 : V24.cell? ⟨w.heap.size, 9, none⟩ = some (.int .i64 0) := blk_cell hxr 9
    have t10 : V24.cell? ⟨w.heap.size, 10, none⟩ = some (.slice none 0 0) := blk_cell hxr 10
    have zt0 := blk_frozen hxr 0
    have zt1 := blk_frozen hxr 1
    have zt2 := blk_frozen hxr 2
    have zt3 := blk_frozen hxr 3
    have zt4 := blk_frozen hxr 4
    have zt5 := blk_frozen hxr 5
    have zt6 := blk_frozen hxr 6
    have zt7 := blk_frozen hxr 7
    have zt8 := blk_frozen hxr 8
    have zt9 := blk_frozen hxr 9
    have zt10 := blk_frozen hxr 10
    clear hxr
    go_wp2
    obtain ⟨W9, hW9⟩ : ∃ W9, W9 = (((((((((((V24.setCell ⟨w.heap.size, 0, none⟩ (.int .i64 0)).setCell ⟨w.heap.size, 1, none⟩ (.int .u64 0)).setCell ⟨w.heap.size, 2, none⟩ (.int .i64 0)).setCell ⟨w.heap.size, 3, none⟩ (.int .i64 0)).setCell ⟨w.heap.size, 4, none⟩ (.int .i64 0)).setCell ⟨w.heap.size, 5, none⟩ (.int .i64 0)).setCell ⟨w.heap.size, 6, none⟩ (.int .u64 0)).setCell ⟨w.heap.size, 7, none⟩ (.int .i64 0)).setCell ⟨w.heap.size, 8, none⟩ (.int .i64 0)).setCell ⟨w.heap.size, 9, none⟩ (.int .i64 0)).setCell ⟨w.heap.size, 10, none⟩ (.slice none 0 0)) := ⟨_, rfl⟩
    rw [← hW9]
    have hr9 : W9.heap[w.heap.size]? = some (.cells (celA cel0 none 0) 30 (0, 0)) := by rw [hW9]; exact putCell_at (x := cel0) (A := none) (c := 0) HD.out.res
    have hb9 : Below w.heap.size w W9 := by rw [hW9]; exact putCell_below (x := cel0) (A := none) (c := 0) HD.out.bel (Nat.le_refl _)
    clear hW9 t0 t1 t2 t3 t4 t5 t6 t7 t8 t9 t10
    have t0 : W9.cell? ⟨w.heap.size, 0, none⟩ = some (.int .i64 0) := blk_cell hr9 0
    have t1 : W9.cell? ⟨w.heap.size, 1, none⟩ = some (.int .u64 0) := blk_cell hr9 1
    have t2 : W9.cell? ⟨w.heap.size, 2, none⟩ = some (.int .i64 0) := blk_cell hr9 2
    have t3 : W9.cell? ⟨w.heap.size, 3, none⟩ = some (.int .i64 0) := blk_cell hr9 3
    have t4 : W9.cell? ⟨w.heap.size, 4, none⟩ = some (.int .i64 0) := blk_cell hr9 4
    have t5 : W9.cell? ⟨w.heap.size, 5, none⟩ = some (.int .i64 0) := blk_cell hr9 5
    have t6 : W9.cell? ⟨w.heap.size, 6, none⟩ = some (.int .u64 0) := blk_cell hr9 6
    have t7 : W9.cell? ⟨w.heap.size, 7, none⟩ = some (.int .i64 0) := blk_cell hr9 7
    have t8 : W9.cell? ⟨w.heap.size, 8, none⟩ = some (.int .i64 0) := blk_cell hr9 8
    have t9 : W9.cell? ⟨w.heap.size, 9, none⟩ = some (.int .i64 0) := blk_cell hr9 9
    have t10 : W9.cell? ⟨w.heap.size, 10, none⟩ = some (.slice none 0 0) := blk_cell hr9 10
    refine bodyPost_ret (v := .tuple #[.agg (celA cel0 none 0), .int .i64 0, .int .i64 14]) (by simp [results, Try.results28, go_sem, cel0, t0, t1, t2, t3, t4, t5, t6, t7, t8, t9, t10]) rfl ?_
    rw [HE.out]
    exact ⟨⟨none, 0, rfl, RdB_nil _⟩, hb9⟩
  have hl2' : ¬ (b.length : Int) < 14 + (nb : Int) := by omega
  obtain ⟨B9, q9, r9⟩ := cutG HRV.out HC.out 14 nb 14 (14 + (nb : Int)) rfl (by omega) (by omega)
  have htk : tk b 14 nb = (b.drop 14).take nb := by unfold tk; rw [if_pos (by omega)]
  have htl : (tk b 14 nb).length = nb := by rw [htk, List.length_take, List.length_drop]; omega
  have R9 := Aside0.mk (show RdN v B9 nb (tk b 14 nb) by rw [htk]; exact r9)
  have HTL := Aside0.mk htl
  have HL2 := Aside0.mk hl2
  clear htk htl r9 hl2
  go_upto_region 36 with (fail)
  obtain ⟨V30, hV30⟩ : ∃ W, W = (V24.setCell ⟨g5, 10, none⟩ (.slice B9 nb (c - 14))) := ⟨_, rfl⟩
  rw [← hV30]
  replace HD := Aside0.mk (show RS w V30 g5 x9 B9 (c - 14) by rw [hV30, hx9.out]; exact HD.out.set_ 10 (.slice B9 nb (c - 14)) (x' := ⟨gv b 0 1, gv b 1 2, gv b 3 4, gv b 7 1, gv b 8 1, gv b 9 2, gv b 11 2, 0, 0, 0, tk b 14 nb⟩) (A' := B9) (c' := c - 14) (cel_setBody _ _ _ _ _ _ _ HTL.out))
  clear hV30 c0 c1 c2 c3 c4 c5 c6 c7 c8 c9 c10 z10 hbw
  have HRX := Aside0.mk (show RdN v B9 x9.body.length x9.body by rw [hx9.out]; show Kd.C _ _ _ (tk b 14 nb).length _; rw [HTL.out]; exact R9.out)
  have hx5 := HD.out.cell
  obtain ⟨c0, c1, c2, c3, c4, c5, c6, c7, c8, c9⟩ := cel_at (x := x9) (A := B9) (c := (c - 14)) hx5
  have c10 : V30.cell? ⟨g5, 10, none⟩ = some (.slice B9 x9.body.length (c - 14)) := blk_cell hx5 10
  (try simp only at c0 c1 c2 c3 c4 c5 c6 c7 c8 c9)
  clear hx5
  have hxr := HD.out.res
  have t0 : V30.cell? ⟨w.heap.size, 0, none⟩ = some (.int .i64 0) := blk_cell hxr 0
  have t1 : V30.cell? ⟨w.heap.size, 1, none⟩ = some (.int .u64 0) := blk_cell hxr 1
  have t2 : V30.cell? ⟨w.heap.size, 2, none⟩ = some (.int .i64 0) := blk_cell hxr 2
  have t3 : V30.cell? ⟨w.heap.size, 3, none⟩ = some (.int .i64 0) := blk_cell hxr 3
  have t4 : V30.cell? ⟨w.heap.size, 4, none⟩ = some (.int .i64 0) := blk_cell hxr 4
  have t5 : V30.cell? ⟨w.heap.size, 5, none⟩ = some (.int .i64 0) := blk_cell hxr 5
  have t6 : V30.cell? ⟨w.heap.size, 6, none⟩ = some (.int .u64 0) := blk_cell hxr 6
  have t7 : V30.cell? ⟨w.heap.size, 7, none⟩ = some (.int .i64 0) := blk_cell hxr 7
  have t8 : V30.cell? ⟨w.heap.size, 8, none⟩ = some (.int .i64 0) := blk_cell hxr 8
  have t9 : V30.cell? ⟨w.heap.size, 9, none⟩ = some (.int .i64 0) := blk_cell hxr 9
  have t10 : V30.cell? ⟨w.heap.size, 10, none⟩ = some (.slice none 0 0) := blk_cell hxr 10
  have zt0 := blk_frozen hxr 0
  have zt1 := blk_frozen hxr 1
  have zt2 := blk_frozen hxr 2
  have zt3 := blk_frozen hxr 3
  have zt4 := blk_frozen hxr 4
  have zt5 := blk_frozen hxr 5
  have zt6 := blk_frozen hxr 6
  have zt7 := blk_frozen hxr 7
  have zt8 := blk_frozen hxr 8
  have zt9 := blk_frozen hxr 9
  have zt10 := blk_frozen hxr 10
  clear hxr
  cases hq : rightB x9 with
  | false =>
    have HE := Aside0.mk (show res = (cel0, 0, 3) by rw [hres.out, if_neg HL2.out, if_neg (by rw [hq]; simp)])
    go_wp2_with (go_at_call 10; go_must (refine (refright_any x9 B9 (c - 14) _ (Kd.C_below (Kd.C_below HRX.out HVW.out) HD.out.bel) hwf.out.2.2).mono ?_; rintro e y9 ⟨rfl, hb⟩; rw [hq]; replace HD := Aside0.mk (HD.out.below hb); clear c0 c1 c2 c3 c4 c5 c6 c7 c8 c9 c10 t0 zt0 t1 zt1 t2 zt2 t3 zt3 t4 zt4 t5 zt5 t6 zt6 t7 zt7 t8 zt8 t9 zt9 t10 zt10; have hx5 := HD.out.cell; obtain ⟨c0, c1, c2, c3, c4, c5, c6, c7, c8, c9⟩ := cel_at (x := x9) (A := B9) (c := (c - 14)) hx5; have c10 : y9.cell? ⟨g5, 10, none⟩ = some (.slice B9 x9.body.length (c - 14)) := blk_cell hx5 10; (try simp only at c0 c1 c2 c3 c4 c5 c6 c7 c8 c9); clear hx5; have hxr := HD.out.res; have t0 : y9.cell? ⟨w.heap.size, 0, none⟩ = some (.int .i64 0) := blk_cell hxr 0; have t1 : y9.cell? ⟨w.heap.size, 1, none⟩ = some (.int .u64 0) := blk_cell hxr 1; have t2 : y9.cell? ⟨w.heap.size, 2, none⟩ = some (.int .i64 0) := blk_cell hxr 2; have t3 : y9.cell? ⟨w.heap.size, 3, none⟩ = some (.int .i64 0) := blk_cell hxr 3; have t4 : y9.cell? ⟨w.heap.size, 4, none⟩ = some (.int .i64 0) := blk_cell hxr 4; have t5 : y9.cell? ⟨w.heap.size, 5, none⟩ = some (.int .i64 0) := blk_cell hxr 5; have t6 : y9.cell? ⟨w.heap.size, 6, none⟩ = some (.int .u64 0) := blk_cell hxr 6; have t7 : y9.cell? ⟨w.heap.size, 7, none⟩ = some (.int .i64 0) := blk_cell hxr 7; have t8 : y9.cell? ⟨w.heap.size, 8, none⟩ = some (.int .i64 0) := blk_cell hxr 8; have t9 : y9.cell? ⟨w.heap.size, 9, none⟩ = some (.int .i64 0) := blk_cell hxr 9; have t10 : y9.cell? ⟨w.heap.size, 10, none⟩ = some (.slice none 0 0) := blk_cell hxr 10; have zt0 := blk_frozen hxr 0; have zt1 := blk_frozen hxr 1; have zt2 := blk_frozen hxr 2; have zt3 := blk_frozen hxr 3; have zt4 := blk_frozen hxr 4; have zt5 := blk_frozen hxr 5; have zt6 := blk_frozen hxr 6; have zt7 := blk_frozen hxr 7; have zt8 := blk_frozen hxr 8; have zt9 := blk_frozen hxr 9; have zt10 := blk_frozen hxr 10; clear hxr; clear hb))
    obtain ⟨W9, hW9⟩ : ∃ W9, W9 = (((((((((((y9.setCell ⟨w.heap.size, 0, none⟩ (.int .i64 0)).setCell ⟨w.heap.size, 1, none⟩ (.int .u64 0)).setCell ⟨w.heap.size, 2, none⟩ (.int .i64 0)).setCell ⟨w.heap.size, 3, none⟩ (.int .i64 0)).setCell ⟨w.heap.size, 4, none⟩ (.int .i64 0)).setCell ⟨w.heap.size, 5, none⟩ (.int .i64 0)).setCell ⟨w.heap.size, 6, none⟩ (.int .u64 0)).setCell ⟨w.heap.size, 7, none⟩ (.int .i64 0)).setCell ⟨w.heap.size, 8, none⟩ (.int .i64 0)).setCell ⟨w.heap.size, 9, none⟩ (.int .i64 0)).setCell ⟨w.heap.size, 10, none⟩ (.slice none 0 0)) := ⟨_, rfl⟩
    rw [← hW9]
    have hr9 : W9.heap[w.heap.size]? = some (.cells (celA cel0 none 0) 30 (0, 0)) := by rw [hW9]; exact putCell_at (x := cel0) (A := none) (c := 0) HD.out.res
    have hb9 : Below w.heap.size w W9 := by rw [hW9]; exact putCell_below (x := cel0) (A := none) (c := 0) HD.out.bel (Nat.le_refl _)
    clear hW9 t0 t1 t2 t3 t4 t5 t6 t7 t8 t9 t10
    have t0 : W9.cell? ⟨w.heap.size, 0, none⟩ = some (.int .i64 0) := blk_cell hr9 0
    have t1 : W9.cell? ⟨w.heap.size, 1, none⟩ = some (.int .u64 0) := blk_cell hr9 1
    have t2 : W9.cell? ⟨w.heap.size, 2, none⟩ = some (.int .i64 0) := blk_cell hr9 2
    have t3 : W9.cell? ⟨w.heap.size, 3, none⟩ = some (.int .i64 0) := blk_cell hr9 3
    have t4 : W9.cell? ⟨w.heap.size, 4, none⟩ = some (.int .i64 0) := blk_cell hr9 4
    have t5 : W9.cell? ⟨w.heap.size, 5, none⟩ = some (.int .i64 0) := blk_cell hr9 5
    have t6 : W9.cell? ⟨w.heap.size, 6, none⟩ = some (.int .u64 0) := blk_cell hr9 6
    have t7 : W9.cell? ⟨w.heap.size, 7, none⟩ = some (.int .i64 0) := blk_cell hr9 7
    have t8 : W9.cell? ⟨w.heap.size, 8, none⟩ = some (.int .i64 0) := blk_cell hr9 8
    have t9 : W9.cell? ⟨w.heap.size, 9, none⟩ = some (.int .i64 0) := blk_cell hr9 9
    have t10 : W9.cell? ⟨w.heap.size, 10, none⟩ = some (.slice none 0 0) := blk_cell hr9 10
    refine bodyPost_ret (v := .tuple #[.agg (celA cel0 none 0), .int .i64 0, .int .i64 3]) (by simp [results, Try.results28, go_sem, cel0, t0, t1, t2, t3, t4, t5, t6, t7, t8, t9, t10]) rfl ?_
    rw [HE.out]
    exact ⟨⟨none, 0, rfl, RdB_nil _⟩, hb9⟩
  | true =>
    have HE := Aside0.mk (show res = (x9, ((14 + nb : Nat) : Int), 0) by rw [hres.out, if_neg HL2.out, if_pos hq])
    go_wp2_with (go_at_call 10; go_must (refine (refright_any x9 B9 (c - 14) _ (Kd.C_below (Kd.C_below HRX.out HVW.out) HD.out.bel) hwf.out.2.2).mono ?_; rintro e y9 ⟨rfl, hb⟩; rw [hq]; replace HD := Aside0.mk (HD.out.below hb); clear c0 c1 c2 c3 c4 c5 c6 c7 c8 c9 c10 t0 zt0 t1 zt1 t2 zt2 t3 zt3 t4 zt4 t5 zt5 t6 zt6 t7 zt7 t8 zt8 t9 zt9 t10 zt10; have hx5 := HD.out.cell; obtain ⟨c0, c1, c2, c3, c4, c5, c6, c7, c8, c9⟩ := cel_at (x := x9) (A := B9) (c := (c - 14)) hx5; have c10 : y9.cell? ⟨g5, 10, none⟩ = some (.slice B9 x9.body.length (c - 14)) := blk_cell hx5 10; (try simp only at c0 c1 c2 c3 c4 c5 c6 c7 c8 c9); clear hx5; have hxr := HD.out.res; have t0 : y9.cell? ⟨w.heap.size, 0, none⟩ = some (.int .i64 0) := blk_cell hxr 0; have t1 : y9.cell? ⟨w.heap.size, 1, none⟩ = some (.int .u64 0) := blk_cell hxr 1; have t2 : y9.cell? ⟨w.heap.size, 2, none⟩ = some (.int .i64 0) := blk_cell hxr 2; have t3 : y9.cell? ⟨w.heap.size, 3, none⟩ = some (.int .i64 0) := blk_cell hxr 3; have t4 : y9.cell? ⟨w.heap.size, 4, none⟩ = some (.int .i64 0) := blk_cell hxr 4; have t5 : y9.cell? ⟨w.heap.size, 5, none⟩ = some (.int .i64 0) := blk_cell hxr 5; have t6 : y9.cell? ⟨w.heap.size, 6, none⟩ = some (.int .u64 0) := blk_cell hxr 6; have t7 : y9.cell? ⟨w.heap.size, 7, none⟩ = some (.int .i64 0) := blk_cell hxr 7; have t8 : y9.cell? ⟨w.heap.size, 8, none⟩ = some (.int .i64 0) := blk_cell hxr 8; have t9 : y9.cell? ⟨w.heap.size, 9, none⟩ = some (.int .i64 0) := blk_cell hxr 9; have t10 : y9.cell? ⟨w.heap.size, 10, none⟩ = some (.slice none 0 0) := blk_cell hxr 10; have zt0 := blk_frozen hxr 0; have zt1 := blk_frozen hxr 1; have zt2 := blk_frozen hxr 2; have zt3 := blk_frozen hxr 3; have zt4 := blk_frozen hxr 4; have zt5 := blk_frozen hxr 5; have zt6 := blk_frozen hxr 6; have zt7 := blk_frozen hxr 7; have zt8 := blk_frozen hxr 8; have zt9 := blk_frozen hxr 9; have zt10 := blk_frozen hxr 10; clear hxr; clear hb))
    obtain ⟨W9, hW9⟩ : ∃ W9, W9 = (((((((((((y9.setCell ⟨w.heap.size, 0, none⟩ (.int .i64 x9.kind)).setCell ⟨w.heap.size, 1, none⟩ (.int .u64 x9.num)).setCell ⟨w.heap.size, 2, none⟩ (.int .i64 x9.min)).setCell ⟨w.heap.size, 3, none⟩ (.int .i64 x9.br)).setCell ⟨w.heap.size, 4, none⟩ (.int .i64 x9.vol)).setCell ⟨w.heap.size, 5, none⟩ (.int .i64 x9.blk)).setCell ⟨w.heap.size, 6, none⟩ (.int .u64 x9.ref)).setCell ⟨w.heap.size, 7, none⟩ (.int .i64 x9.fr)).setCell ⟨w.heap.size, 8, none⟩ (.int .i64 x9.to)).setCell ⟨w.heap.size, 9, none⟩ (.int .i64 x9.un)).setCell ⟨w.heap.size, 10, none⟩ (.slice B9 x9.body.length (c - 14))) := ⟨_, rfl⟩
    rw [← hW9]
    have hr9 : W9.heap[w.heap.size]? = some (.cells (celA x9 B9 (c - 14)) 30 (0, 0)) := by rw [hW9]; exact putCell_at (x := x9) (A := B9) (c := (c - 14)) HD.out.res
    have hb9 : Below w.heap.size w W9 := by rw [hW9]; exact putCell_below (x := x9) (A := B9) (c := (c - 14)) HD.out.bel (Nat.le_refl _)
    clear hW9 t0 t1 t2 t3 t4 t5 t6 t7 t8 t9 t10
    have t0 : W9.cell? ⟨w.heap.size, 0, none⟩ = some (.int .i64 x9.kind) := blk_cell hr9 0
    have t1 : W9.cell? ⟨w.heap.size, 1, none⟩ = some (.int .u64 x9.num) := blk_cell hr9 1
    have t2 : W9.cell? ⟨w.heap.size, 2, none⟩ = some (.int .i64 x9.min) := blk_cell hr9 2
    have t3 : W9.cell? ⟨w.heap.size, 3, none⟩ = some (.int .i64 x9.br) := blk_cell hr9 3
    have t4 : W9.cell? ⟨w.heap.size, 4, none⟩ = some (.int .i64 x9.vol) := blk_cell hr9 4
    have t5 : W9.cell? ⟨w.heap.size, 5, none⟩ = some (.int .i64 x9.blk) := blk_cell hr9 5
    have t6 : W9.cell? ⟨w.heap.size, 6, none⟩ = some (.int .u64 x9.ref) := blk_cell hr9 6
    have t7 : W9.cell? ⟨w.heap.size, 7, none⟩ = some (.int .i64 x9.fr) := blk_cell hr9 7
    have t8 : W9.cell? ⟨w.heap.size, 8, none⟩ = some (.int .i64 x9.to) := blk_cell hr9 8
    have t9 : W9.cell? ⟨w.heap.size, 9, none⟩ = some (.int .i64 x9.un) := blk_cell hr9 9
    have t10 : W9.cell? ⟨w.heap.size, 10, none⟩ = some (.slice B9 x9.body.length (c - 14)) := blk_cell hr9 10
    refine bodyPost_ret (v := .tuple #[.agg (celA x9 B9 (c - 14)), .int .i64 ((14 + nb : Nat) : Int), .int .i64 0]) (by simp [results, Try.results28, go_sem, t0, t1, t2, t3, t4, t5, t6, t7, t8, t9, t10]) rfl ?_
    rw [HE.out]
    exact ⟨⟨B9, (c - 14), rfl, HRX.out⟩, hb9⟩
set_option maxHeartbeats 6400000 in
set_option maxRecDepth 100000 in
theorem refdec_pr (A : Option Addr) (c : Nat) (b : List Int) (v w : World) (hv : Below v.heap.size v w) (hr : RdB v A b) (hc : b.length ≤ c) (hy : Byt b) (hl1000 : b.length ≤ 1000) (h00 : b.length ≠ 0) (hP : Aside0 (hasPlace (gv b 0 1) = true ∧ hasRef (gv b 0 1) = true ∧ hasMin (gv b 0 1) = false ∧ hasBody (gv b 0 1) = false)) (hk1 : decide (gv b 0 1 < 1) = false) (hk8 : decide (8 < gv b 0 1) = false) (nb : Nat) (hnb : Aside0 (nb = 0))
    (x9 : Cel) (hx9 : Aside0 (x9 = ⟨gv b 0 1, gv b 1 2, gv b 3 4, gv b 7 1, gv b 8 1, gv b 9 2, gv b 11 2, 0, 0, 0, []⟩)) (hwf : Aside0 (CelWf x9)) (res : Cel × Int × Int)
    (hres : Aside0 (res = if b.length < 13 then (cel0, 0, 14) else if rightB x9 then (x9, ((13 : Nat) : Int), 0) else (cel0, 0, 3))) :
    Calls Try.prog 28 #[.slice A b.length c] w fun e w' => RDecdV v w w' e res := by
  have hmx := C_max hr
  have HVW := Aside0.mk hv
  have HRV := Aside0.mk hr
  replace hr := Kd.C_below hr hv
  have HR := Aside0.mk hr
  have HY := Aside0.mk hy
  have HC := Aside0.mk hc
  obtain ⟨ad, rfl, h0⟩ := cell_in hr 0 (by omega)
  rw [add_0] at h0
  have hg0 := gv_range hy 0 1
  have e0 : IntKind.i64.wrap (gv b 0 1) = gv b 0 1 := IntWalk.i64_in _ (by omega)
  clear hr hy hc hg0 hv
  have hb0 : (b.length : Int) ≠ 0 := by omega
  have fb0 : ((b.length : Int) == 0) = false := beq_eq_false_iff_ne.2 hb0
  have hbi : (0 : Int) < (b.length : Int) := by omega
  go_enter Try.func28, Try.ntmps28
  go_upto_region 3 with (fail)
  obtain ⟨W0, hW0⟩ : ∃ W0, W0 = w.alloc (.cells #[.int .i64 0, .int .u64 0, .int .i64 0, .int .i64 0, .int .i64 0, .int .i64 0, .int .u64 0, .int .i64 0, .int .i64 0, .int .i64 0, .slice none 0 0] 30) := ⟨_, rfl⟩
  rw [← hW0]
  have hb1 : Below w.heap.size w W0 := by rw [hW0]; exact below_alloc (Below.refl _ _) _
  have hres0 : W0.heap[w.heap.size]? = some (.cells (celA cel0 none 0) 30 (0, 0)) := by rw [hW0]; exact blk_new _ _
  have h0' := pw_cell_below hb1 h0
  have hsz : W0.heap.size = w.heap.size + 1 := by rw [hW0]; simp
  have HS0 := Aside0.mk (And.intro hb1 (And.intro hres0 hsz))
  clear hW0 hb1 hres0 h0 hsz
  by_cases hlt : b.length < 13
  · have HE := Aside0.mk (show res = (cel0, 0, 14) by rw [hres.out, if_pos (by omega)])
    go_upto_region 17 with (go_at_call 38; go_must (refine (refhas_any (gv b 0 1) _).mono ?_; rintro e w3 ⟨rfl, rfl⟩; rw [hP.out.1, hP.out.2.1, hP.out.2.2.1, hP.out.2.2.2]))
    obtain ⟨W1, hW1⟩ : ∃ W1, W1 = W0.alloc (.cells #[.int .i64 (gv b 0 1), .int .u64 0, .int .i64 0, .int .i64 0, .int .i64 0, .int .i64 0, .int .u64 0, .int .i64 0, .int .i64 0, .int .i64 0, .slice none 0 0] 30) := ⟨_, rfl⟩
    rw [← hW1]
    have HD := Aside0.mk (show RS w W1 W0.heap.size ⟨gv b 0 1, 0, 0, 0, 0, 0, 0, 0, 0, 0, []⟩ none 0 from { cell := (by rw [hW1]; exact blk_new _ _), res := (by rw [hW1]; exact blk_alloc HS0.out.2.1 _), bel := (by rw [hW1]; exact HS0.out.1.alloc (by rw [HS0.out.2.2]; omega) _), ord := (by rw [HS0.out.2.2]; omega) })
    obtain ⟨g5, hg5⟩ : ∃ g, g = W0.heap.size := ⟨_, rfl⟩
    rw [← hg5] at HD ⊢
    clear hW1 hg5 h0'
    have hxr := HD.out.res
    have t0 : W1.cell? ⟨w.heap.size, 0, none⟩ = some (.int .i64 0) := blk_cell hxr 0
    have t1 : W1.cell? ⟨w.heap.size, 1, none⟩ = some (.int .u64 0) := blk_cell hxr 1
    have t2 : W1.cell? ⟨w.heap.size, 2, none⟩ = some (.int .i64 0) := blk_cell hxr 2
    have t3 : W1.cell? ⟨w.heap.size, 3, none⟩ = some (.int .i64 0) := blk_cell hxr 3
    have t4 : W1.cell? ⟨w.heap.size, 4, none⟩ = some (.int .i64 0) := blk_cell hxr 4
    have t5 : W1.cell? ⟨w.heap.size, 5, none⟩ = some (.int .i64 0) := blk_cell hxr 5
    have t6 : W1.cell? ⟨w.heap.size, 6, none⟩ = some (.int .u64 0) := blk_cell hxr 6
    have t7 : W1.cell? ⟨w.heap.size, 7, none⟩ = some (.int .i64 0) := blk_cell hxr 7
    have t8 : W1.cell? ⟨w.heap.size, 8, none⟩ = some (.int .i64 0) := blk_cell hxr 8
    have t9 : W1.cell? ⟨w.heap.size, 9, none⟩ = some (.int .i64 0) := blk_cell hxr 9
    have t10 : W1.cell? ⟨w.heap.size, 10, none⟩ = some (.slice none 0 0) := blk_cell hxr 10
    have zt0 := blk_frozen hxr 0
    have zt1 := blk_frozen hxr 1
    have zt2 := blk_frozen hxr 2
    have zt3 := blk_frozen hxr 3
    have zt4 := blk_frozen hxr 4
    have zt5 := blk_frozen hxr 5
    have zt6 := blk_frozen hxr 6
    have zt7 := blk_frozen hxr 7
    have zt8 := blk_frozen hxr 8
    have zt9 := blk_frozen hxr 9
    have zt10 := blk_frozen hxr 10
    clear hxr
    go_wp2
    obtain ⟨W9, hW9⟩ : ∃ W9, W9 = (((((((((((W1.setCell ⟨w.heap.size, 0, none⟩ (.int .i64 0)).setCell ⟨w.heap.size, 1, none⟩ (.int .u64 0)).setCell ⟨w.heap.size, 2, none⟩ (.int .i64 0)).setCell ⟨w.heap.size, 3, none⟩ (.int .i64 0)).setCell ⟨w.heap.size, 4, none⟩ (.int .i64 0)).setCell ⟨w.heap.size, 5, none⟩ (.int .i64 0)).setCell ⟨w.heap.size, 6, none⟩ (.int .u64 0)).setCell ⟨w.heap.size, 7, none⟩ (.int .i64 0)).setCell ⟨w.heap.size, 8, none⟩ (.int .i64 0)).setCell ⟨w.heap.size, 9, none⟩ (.int .i64 0)).setCell ⟨w.heap.size, 10, none⟩ (.slice none 0 0)) := ⟨_, rfl⟩
    rw [← hW9]
    have hr9 : W9.heap[w.heap.size]? = some (.cells (celA cel0 none 0) 30 (0, 0)) := by rw [hW9]; exact putCell_at (x := cel0) (A := none) (c := 0) HD.out.res
    have hb9 : Below w.heap.size w W9 := by rw [hW9]; exact putCell_below (x := cel0) (A := none) (c := 0) HD.out.bel (Nat.le_refl _)
    clear hW9 t0 t1 t2 t3 t4 t5 t6 t7 t8 t9 t10
    have t0 : W9.cell? ⟨w.heap.size, 0, none⟩ = some (.int .i64 0) := blk_cell hr9 0
    have t1 : W9.cell? ⟨w.heap.size, 1, none⟩ = some (.int .u64 0) := blk_cell hr9 1
    have t2 : W9.cell? ⟨w.heap.size, 2, none⟩ = some (.int .i64 0) := blk_cell hr9 2
    have t3 : W9.cell? ⟨w.heap.size, 3, none⟩ = some (.int .i64 0) := blk_cell hr9 3
    have t4 : W9.cell? ⟨w.heap.size, 4, none⟩ = some (.int .i64 0) := blk_cell hr9 4
    have t5 : W9.cell? ⟨w.heap.size, 5, none⟩ = some (.int .i64 0) := blk_cell hr9 5
    have t6 : W9.cell? ⟨w.heap.size, 6, none⟩ = some (.int .u64 0) := blk_cell hr9 6
    have t7 : W9.cell? ⟨w.heap.size, 7, none⟩ = some (.int .i64 0) := blk_cell hr9 7
    have t8 : W9.cell? ⟨w.heap.size, 8, none⟩ = some (.int .i64 0) := blk_cell hr9 8
    have t9 : W9.cell? ⟨w.heap.size, 9, none⟩ = some (.int .i64 0) := blk_cell hr9 9
    have t10 : W9.cell? ⟨w.heap.size, 10, none⟩ = some (.slice none 0 0) := blk_cell hr9 10
    refine bodyPost_ret (v := .tuple #[.agg (celA cel0 none 0), .int .i64 0, .int .i64 14]) (by simp [results, Try.results28, go_sem, cel0, t0, t1, t2, t3, t4, t5, t6, t7, t8, t9, t10]) rfl ?_
    rw [HE.out]
    exact ⟨⟨none, 0, rfl, RdB_nil _⟩, hb9⟩
  obtain ⟨B1, q1, r1⟩ := cutG HR.out HC.out 1 2 1 3 rfl rfl (by omega)
  have R1 := Aside0.mk r1
  have hg1 := gv_range HY.out 1 2
  have GV1 := Aside0.mk (gv_val (b := b) (m := 1) (n := 2) (by omega))
  clear r1 hg1
  obtain ⟨B3, q3, r3⟩ := cutG HR.out HC.out 3 4 3 7 rfl rfl (by omega)
  have R3 := Aside0.mk r3
  have hg3 := gv_range HY.out 3 4
  have GV3 := Aside0.mk (gv_val (b := b) (m := 3) (n := 4) (by omega))
  have i3 : IntKind.i64.wrap (gv b 3 4) = gv b 3 4 := IntWalk.i64_in _ (by omega)
  clear r3 hg3
  obtain ⟨B9, q9, r9⟩ := cutG HR.out HC.out 9 2 9 11 rfl rfl (by omega)
  have R9 := Aside0.mk r9
  have hg9 := gv_range HY.out 9 2
  have GV9 := Aside0.mk (gv_val (b := b) (m := 9) (n := 2) (by omega))
  have i9 : IntKind.i64.wrap (gv b 9 2) = gv b 9 2 := IntWalk.i64_in _ (by omega)
  clear r9 hg9
  obtain ⟨B11, q11, r11⟩ := cutG HR.out HC.out 11 2 11 13 rfl rfl (by omega)
  have R11 := Aside0.mk r11
  have hg11 := gv_range HY.out 11 2
  have GV11 := Aside0.mk (gv_val (b := b) (m := 11) (n := 2) (by omega))
  clear r11 hg11
  obtain ⟨ad7, he7, hb7⟩ := cell_in HR.out 7 (by omega)
  obtain rfl : ad = ad7 := by simpa using he7
  rw [add_k _ _ (by decide)] at hb7
  have HB7 := Aside0.mk hb7
  have hg7 := gv_range HY.out 7 1
  have i7 : IntKind.i64.wrap (gv b 7 1) = gv b 7 1 := IntWalk.i64_in _ (by omega)
  have hq7 : (7 : Int) < (b.length : Int) := by omega
  clear he7 hb7 hg7
  obtain ⟨ad8, he8, hb8⟩ := cell_in HR.out 8 (by omega)
  obtain rfl : ad = ad8 := by simpa using he8
  rw [add_k _ _ (by decide)] at hb8
  have HB8 := Aside0.mk hb8
  have hg8 := gv_range HY.out 8 1
  have i8 : IntKind.i64.wrap (gv b 8 1) = gv b 8 1 := IntWalk.i64_in _ (by omega)
  have hq8 : (8 : Int) < (b.length : Int) := by omega
  clear he8 hb8 hg8
  have HLEN := Aside0.mk hlt
  have hlt' : ¬ (b.length : Int) < 13 := by omega
  clear hlt
  go_upto_region 18 with (go_at_call 38; go_must (refine (refhas_any (gv b 0 1) _).mono ?_; rintro e w3 ⟨rfl, rfl⟩; rw [hP.out.1, hP.out.2.1, hP.out.2.2.1, hP.out.2.2.2]))
  obtain ⟨W1, hW1⟩ : ∃ W1, W1 = W0.alloc (.cells #[.int .i64 (gv b 0 1), .int .u64 0, .int .i64 0, .int .i64 0, .int .i64 0, .int .i64 0, .int .u64 0, .int .i64 0, .int .i64 0, .int .i64 0, .slice none 0 0] 30) := ⟨_, rfl⟩
  rw [← hW1]
  have HD := Aside0.mk (show RS w W1 W0.heap.size ⟨gv b 0 1, 0, 0, 0, 0, 0, 0, 0, 0, 0, []⟩ none 0 from { cell := (by rw [hW1]; exact blk_new _ _), res := (by rw [hW1]; exact blk_alloc HS0.out.2.1 _), bel := (by rw [hW1]; exact HS0.out.1.alloc (by rw [HS0.out.2.2]; omega) _), ord := (by rw [HS0.out.2.2]; omega) })
  obtain ⟨g5, hg5⟩ : ∃ g, g = W0.heap.size := ⟨_, rfl⟩
  rw [← hg5] at HD ⊢
  clear hW1 hg5 h0'
  have hx5 := HD.out.cell
  obtain ⟨c0, c1, c2, c3, c4, c5, c6, c7, c8, c9⟩ := cel_at (x := ⟨gv b 0 1, 0, 0, 0, 0, 0, 0, 0, 0, 0, []⟩) (A := none) (c := 0) hx5
  have c10 : W1.cell? ⟨g5, 10, none⟩ = some (.slice none 0 0) := blk_cell hx5 10
  (try simp only at c0 c1 c2 c3 c4 c5 c6 c7 c8 c9)
  have z1 := blk_frozen hx5 1
  have z2 := blk_frozen hx5 2
  clear hx5
  go_wp2_with (fail)
  have HD0 := HD
  refine start_ (n := 11) (S := fun w' => True) (ds := []) #[false, false, false, false, false, false, false, false, false, false, false] (by kernel_rfl) rfl rfl trivial (fun hHeld => ?_); refine with_tab tabX18_ok (fun HT_ => ?_)
  have hb : Below W1.heap.size W1 W1.drew := below_drew (Below.refl _ _)
  replace HD := Aside0.mk (HD.out.below hb)
  clear hb
  refine pure_ (i := 0) (N := some 56) (v := ?_) (a' := ?_) #[true, false, false, false, false, false, false, false, false, false, false] rfl rfl (any_of HT_.out (by kernel_rfl)) (fun _ _ _ h => h) (Or.inl ⟨by rfl, ?_⟩) ?_ ?_
  rotate_left
  · intro w'
    go_simp
    with_reducible rfl
  rotate_left
  · simp only [Act.put, List.setIfInBounds_toArray, List.set_cons_zero, List.set_cons_succ]
    rfl
  refine pure_ (i := 1) (N := some 57) (v := ?_) (a' := ?_) #[true, true, false, false, false, false, false, false, false, false, false] rfl rfl (any_of HT_.out (by kernel_rfl)) (fun _ _ _ h => h) (Or.inl ⟨by rfl, ?_⟩) ?_ ?_
  rotate_left
  · intro w'
    go_simp
    with_reducible rfl
  rotate_left
  · simp only [Act.put, List.setIfInBounds_toArray, List.set_cons_zero, List.set_cons_succ]
    rfl
  refine pure_ (i := 3) (N := some 59) (v := ?_) (a' := ?_) #[true, true, false, true, false, false, false, false, false, false, false] rfl rfl (any_of HT_.out (by kernel_rfl)) (fun _ _ _ h => h) (Or.inl ⟨by rfl, ?_⟩) ?_ ?_
  rotate_left
  · intro w'
    go_simp
    with_reducible rfl
  rotate_left
  · simp only [Act.put, List.setIfInBounds_toArray, List.set_cons_zero, List.set_cons_succ]
    rfl
  refine pure_ (i := 4) (N := some 60) (v := ?_) (a' := ?_) #[true, true, false, true, true, false, false, false, false, false, false] rfl rfl (any_of HT_.out (by kernel_rfl)) (fun _ _ _ h => h) (Or.inl ⟨by rfl, ?_⟩) ?_ ?_
  rotate_left
  · intro w'
    go_simp
    with_reducible rfl
  rotate_left
  · simp only [Act.put, List.setIfInBounds_toArray, List.set_cons_zero, List.set_cons_succ]
    rfl
  refine one_ (i := 2) (N := some 58) #[true, true, true, true, true, false, false, false, false, false, false] rfl rfl (one_of HT_.out (by kernel_rfl)) (by decide) (fun Kq_ hK_ => ?_)
  refine goes_ Try.func42 (by kernel_rfl) rfl #[.slice B1 2 (c - 1)] (by rfl) rfl rfl (by (try simp only [List.map_toArray, List.map_cons, List.map_nil]); first | done | rfl) ?_
  with_reducible refine (refget_any B1 2 (c - 1) _ _ (Kd.C_below R1.out HD.out.bel) ((HY.out.drop _).take _) (by decide)).mono ?_
  rintro e w' ⟨rfl, rfl⟩
  refine ⟨_, rfl, ?_⟩
  rw [GV1.out]
  refine hK_.out _ _ trivial (fun hHeld => ?_)
  clear hK_ Kq_
  refine norm_ (a' := ?_) ?_ ?_
  rotate_left
  · show Act.put _ (some 58) _ = _
    simp only [Act.put, List.setIfInBounds_toArray, List.set_cons_zero, List.set_cons_succ]
    rfl
  refine pure_ (i := 7) (N := some 63) (v := ?_) (a' := ?_) #[true, true, true, true, true, false, false, true, false, false, false] rfl rfl (any_of HT_.out (by kernel_rfl)) (fun _ _ _ h => h) (Or.inl ⟨by rfl, ?_⟩) ?_ ?_
  rotate_left
  · intro w'
    go_simp
    with_reducible rfl
  rotate_left
  · simp only [Act.put, List.setIfInBounds_toArray, List.set_cons_zero, List.set_cons_succ]
    rfl
  refine one_ (i := 5) (N := some 61) #[true, true, true, true, true, true, false, true, false, false, false] rfl rfl (one_of HT_.out (by kernel_rfl)) (by decide) (fun Kq_ hK_ => ?_)
  refine goes_ Try.func42 (by kernel_rfl) rfl #[.slice B3 4 (c - 3)] (by rfl) rfl rfl (by (try simp only [List.map_toArray, List.map_cons, List.map_nil]); first | done | rfl) ?_
  with_reducible refine (refget_any B3 4 (c - 3) _ _ (Kd.C_below R3.out HD.out.bel) ((HY.out.drop _).take _) (by decide)).mono ?_
  rintro e w' ⟨rfl, rfl⟩
  refine ⟨_, rfl, ?_⟩
  rw [GV3.out]
  refine hK_.out _ _ trivial (fun hHeld => ?_)
  clear hK_ Kq_
  refine norm_ (a' := ?_) ?_ ?_
  rotate_left
  · show Act.put _ (some 61) _ = _
    simp only [Act.put, List.setIfInBounds_toArray, List.set_cons_zero, List.set_cons_succ]
    rfl
  refine pure_ (i := 6) (N := some 62) (v := ?_) (a' := ?_) #[true, true, true, true, true, true, true, true, false, false, false] rfl rfl (any_of HT_.out (by kernel_rfl)) (fun _ _ _ h => h) (Or.inl ⟨by rfl, ?_⟩) ?_ ?_
  rotate_left
  · intro w'
    go_simp
    with_reducible rfl
  rotate_left
  · simp only [Act.put, List.setIfInBounds_toArray, List.set_cons_zero, List.set_cons_succ]
    rfl
  refine one_ (i := 8) (N := none) #[true, true, true, true, true, true, true, true, true, false, false] rfl rfl (one_of HT_.out (by kernel_rfl)) (by decide) (fun Kq_ hK_ => ?_)
  refine skip_ (w1 := ?_) (by rfl) rfl ?_ ?_
  rotate_left
  · go_simp
    first | done | rfl
  refine hK_.out _ _ trivial (fun hHeld => ?_)
  clear hK_ Kq_
  refine pure_ (i := 9) (N := some 64) (v := ?_) (a' := ?_) #[true, true, true, true, true, true, true, true, true, true, false] rfl rfl (any_of HT_.out (by kernel_rfl)) (fun _ _ _ h => h) (Or.inl ⟨by rfl, ?_⟩) ?_ ?_
  rotate_left
  · intro w'
    go_simp
    with_reducible rfl
  rotate_left
  · simp only [Act.put, List.setIfInBounds_toArray, List.set_cons_zero, List.set_cons_succ]
    rfl
  refine one_ (i := 10) (N := none) #[true, true, true, true, true, true, true, true, true, true, true] rfl rfl (one_of HT_.out (by kernel_rfl)) (by decide) (fun Kq_ hK_ => ?_)
  refine skip_ (w1 := ?_) (by rfl) rfl ?_ ?_
  rotate_left
  · go_simp
    first | done | rfl
  refine hK_.out _ _ trivial (fun hHeld => ?_)
  clear hK_ Kq_
  refine done_ (done_of HT_.out (by kernel_rfl)) ?_
  clear HT_ hHeld
  go_upto_region 21 with (fail)
  obtain ⟨V18, hV18⟩ : ∃ W, W = ((W1.setCell ⟨g5, 1, none⟩ (.int .u64 (gv b 1 2))).setCell ⟨g5, 2, none⟩ (.int .i64 (gv b 3 4))).drew := ⟨_, rfl⟩
  rw [← hV18]
  replace HD := Aside0.mk (show RS w V18 g5 ⟨gv b 0 1, gv b 1 2, gv b 3 4, 0, 0, 0, 0, 0, 0, 0, []⟩ none 0 by rw [hV18]; exact RS.drew_ ((HD0.out.set_ 1 (.int .u64 (gv b 1 2)) (x' := ⟨gv b 0 1, gv b 1 2, 0, 0, 0, 0, 0, 0, 0, 0, []⟩) (A' := none) (c' := 0) rfl).set_ 2 (.int .i64 (gv b 3 4)) (x' := ⟨gv b 0 1, gv b 1 2, gv b 3 4, 0, 0, 0, 0, 0, 0, 0, []⟩) (A' := none) (c' := 0) rfl))
  clear hV18 c0 c1 c2 c3 c4 c5 c6 c7 c8 c9 c10 z1 z2
  have hx5 := HD.out.cell
  obtain ⟨c0, c1, c2, c3, c4, c5, c6, c7, c8, c9⟩ := cel_at (x := ⟨gv b 0 1, gv b 1 2, gv b 3 4, 0, 0, 0, 0, 0, 0, 0, []⟩) (A := none) (c := 0) hx5
  have c10 : V18.cell? ⟨g5, 10, none⟩ = some (.slice none 0 0) := blk_cell hx5 10
  (try simp only at c0 c1 c2 c3 c4 c5 c6 c7 c8 c9)
  have z3 := blk_frozen hx5 3
  have z4 := blk_frozen hx5 4
  have z5 := blk_frozen hx5 5
  clear hx5
  go_wp2_with (fail)
  have HD0 := HD
  refine start_ (n := 15) (S := fun w' => w'.cell? ⟨ad.block, ad.off + 7, none⟩ = some (.int .u8 (gv b 7 1)) ∧ w'.cell? ⟨ad.block, ad.off + 8, none⟩ = some (.int .u8 (gv b 8 1))) (ds := []) #[false, false, false, false, false, false, false, false, false, false, false, false, false, false, false] (by kernel_rfl) rfl rfl ⟨pw_cell_below (below_drew HD.out.bel) HB7.out, pw_cell_below (below_drew HD.out.bel) HB8.out⟩ (fun hHeld => ?_); refine with_tab tabX21_ok (fun HT_ => ?_)
  have hb : Below V18.heap.size V18 V18.drew := below_drew (Below.refl _ _)
  replace HD := Aside0.mk (HD.out.below hb)
  clear hb
  refine pure_ (i := 0) (N := some 66) (v := ?_) (a' := ?_) #[true, false, false, false, false, false, false, false, false, false, false, false, false, false, false] rfl rfl (any_of HT_.out (by kernel_rfl)) (fun _ _ _ h => h) (Or.inl ⟨by rfl, ?_⟩) ?_ ?_
  rotate_left
  · intro w'
    go_simp
    with_reducible rfl
  rotate_left
  · simp only [Act.put, List.setIfInBounds_toArray, List.set_cons_zero, List.set_cons_succ]
    rfl
  refine pure_ (i := 1) (N := some 67) (v := ?_) (a' := ?_) #[true, true, false, false, false, false, false, false, false, false, false, false, false, false, false] rfl rfl (any_of HT_.out (by kernel_rfl)) (fun _ _ _ h => h) (Or.inl ⟨by rfl, ?_⟩) ?_ ?_
  rotate_left
  · intro w'
    go_simp
    with_reducible rfl
  rotate_left
  · simp only [Act.put, List.setIfInBounds_toArray, List.set_cons_zero, List.set_cons_succ]
    rfl
  refine take_ (i := 2) (N := some 68) (v := ?_) (a' := ?_) #[true, true, true, false, false, false, false, false, false, false, false, false, false, false, false] rfl rfl (take_of HT_.out (by kernel_rfl)) (fun _ _ _ h => h) (Or.inl ⟨by rfl, ?_⟩) hHeld ?_ ?_
  rotate_left
  · intro w' hw'
    obtain ⟨s0, s1⟩ := hw'
    go_simp
    with_reducible rfl
  rotate_left
  · simp only [Act.put, List.setIfInBounds_toArray, List.set_cons_zero, List.set_cons_succ]
    rfl
  refine pure_ (i := 3) (N := some 69) (v := ?_) (a' := ?_) #[true, true, true, true, false, false, false, false, false, false, false, false, false, false, false] rfl rfl (any_of HT_.out (by kernel_rfl)) (fun _ _ _ h => h) (Or.inl ⟨by rfl, ?_⟩) ?_ ?_
  rotate_left
  · intro w'
    go_simp
    with_reducible rfl
  rotate_left
  · simp only [Act.put, List.setIfInBounds_toArray, List.set_cons_zero, List.set_cons_succ]
    rfl
  refine pure_ (i := 4) (N := some 70) (v := ?_) (a' := ?_) #[true, true, true, true, true, false, false, false, false, false, false, false, false, false, false] rfl rfl (any_of HT_.out (by kernel_rfl)) (fun _ _ _ h => h) (Or.inl ⟨by rfl, ?_⟩) ?_ ?_
  rotate_left
  · intro w'
    go_simp
    with_reducible rfl
  rotate_left
  · simp only [Act.put, List.setIfInBounds_toArray, List.set_cons_zero, List.set_cons_succ]
    rfl
  refine pure_ (i := 5) (N := some 71) (v := ?_) (a' := ?_) #[true, true, true, true, true, true, false, false, false, false, false, false, false, false, false] rfl rfl (any_of HT_.out (by kernel_rfl)) (fun _ _ _ h => h) (Or.inl ⟨by rfl, ?_⟩) ?_ ?_
  rotate_left
  · intro w'
    go_simp
    with_reducible rfl
  rotate_left
  · simp only [Act.put, List.setIfInBounds_toArray, List.set_cons_zero, List.set_cons_succ]
    rfl
  refine take_ (i := 6) (N := some 72) (v := ?_) (a' := ?_) #[true, true, true, true, true, true, true, false, false, false, false, false, false, false, false] rfl rfl (take_of HT_.out (by kernel_rfl)) (fun _ _ _ h => h) (Or.inl ⟨by rfl, ?_⟩) hHeld ?_ ?_
  rotate_left
  · intro w' hw'
    obtain ⟨s0, s1⟩ := hw'
    go_simp
    with_reducible rfl
  rotate_left
  · simp only [Act.put, List.setIfInBounds_toArray, List.set_cons_zero, List.set_cons_succ]
    rfl
  refine pure_ (i := 7) (N := some 73) (v := ?_) (a' := ?_) #[true, true, true, true, true, true, true, true, false, false, false, false, false, false, false] rfl rfl (any_of HT_.out (by kernel_rfl)) (fun _ _ _ h => h) (Or.inl ⟨by rfl, ?_⟩) ?_ ?_
  rotate_left
  · intro w'
    go_simp
    with_reducible rfl
  rotate_left
  · simp only [Act.put, List.setIfInBounds_toArray, List.set_cons_zero, List.set_cons_succ]
    rfl
  refine pure_ (i := 8) (N := some 74) (v := ?_) (a' := ?_) #[true, true, true, true, true, true, true, true, true, false, false, false, false, false, false] rfl rfl (any_of HT_.out (by kernel_rfl)) (fun _ _ _ h => h) (Or.inl ⟨by rfl, ?_⟩) ?_ ?_
  rotate_left
  · intro w'
    go_simp
    with_reducible rfl
  rotate_left
  · simp only [Act.put, List.setIfInBounds_toArray, List.set_cons_zero, List.set_cons_succ]
    rfl
  refine pure_ (i := 9) (N := some 75) (v := ?_) (a' := ?_) #[true, true, true, true, true, true, true, true, true, true, false, false, false, false, false] rfl rfl (any_of HT_.out (by kernel_rfl)) (fun _ _ _ h => h) (Or.inl ⟨by rfl, ?_⟩) ?_ ?_
  rotate_left
  · intro w'
    go_simp
    with_reducible rfl
  rotate_left
  · simp only [Act.put, List.setIfInBounds_toArray, List.set_cons_zero, List.set_cons_succ]
    rfl
  refine one_ (i := 10) (N := some 76) #[true, true, true, true, true, true, true, true, true, true, true, false, false, false, false] rfl rfl (one_of HT_.out (by kernel_rfl)) (by decide) (fun Kq_ hK_ => ?_)
  refine goes_ Try.func42 (by kernel_rfl) rfl #[.slice B9 2 (c - 9)] (by rfl) rfl rfl (by (try simp only [List.map_toArray, List.map_cons, List.map_nil]); first | done | rfl) ?_
  with_reducible refine (refget_any B9 2 (c - 9) _ _ (Kd.C_below R9.out HD.out.bel) ((HY.out.drop _).take _) (by decide)).mono ?_
  rintro e w' ⟨rfl, rfl⟩
  refine ⟨_, rfl, ?_⟩
  rw [GV9.out]
  refine hK_.out _ _ ⟨pw_cell_below HD.out.bel HB7.out, pw_cell_below HD.out.bel HB8.out⟩ (fun hHeld => ?_)
  clear hK_ Kq_
  refine norm_ (a' := ?_) ?_ ?_
  rotate_left
  · show Act.put _ (some 76) _ = _
    simp only [Act.put, List.setIfInBounds_toArray, List.set_cons_zero, List.set_cons_succ]
    rfl
  refine pure_ (i := 11) (N := some 77) (v := ?_) (a' := ?_) #[true, true, true, true, true, true, true, true, true, true, true, true, false, false, false] rfl rfl (any_of HT_.out (by kernel_rfl)) (fun _ _ _ h => h) (Or.inl ⟨by rfl, ?_⟩) ?_ ?_
  rotate_left
  · intro w'
    go_simp
    with_reducible rfl
  rotate_left
  · simp only [Act.put, List.setIfInBounds_toArray, List.set_cons_zero, List.set_cons_succ]
    rfl
  refine pure_ (i := 12) (N := some 78) (v := ?_) (a' := ?_) #[true, true, true, true, true, true, true, true, true, true, true, true, true, false, false] rfl rfl (any_of HT_.out (by kernel_rfl)) (fun _ _ _ h => h) (Or.inl ⟨by rfl, ?_⟩) ?_ ?_
  rotate_left
  · intro w'
    go_simp
    with_reducible rfl
  rotate_left
  · simp only [Act.put, List.setIfInBounds_toArray, List.set_cons_zero, List.set_cons_succ]
    rfl
  refine pure_ (i := 13) (N := some 79) (v := ?_) (a' := ?_) #[true, true, true, true, true, true, true, true, true, true, true, true, true, true, false] rfl rfl (any_of HT_.out (by kernel_rfl)) (fun _ _ _ h => h) (Or.inl ⟨by rfl, ?_⟩) ?_ ?_
  rotate_left
  · intro w'
    go_simp
    with_reducible rfl
  rotate_left
  · simp only [Act.put, List.setIfInBounds_toArray, List.set_cons_zero, List.set_cons_succ]
    rfl
  refine one_ (i := 14) (N := none) #[true, true, true, true, true, true, true, true, true, true, true, true, true, true, true] rfl rfl (one_of HT_.out (by kernel_rfl)) (by decide) (fun Kq_ hK_ => ?_)
  refine skip_ (w1 := ?_) (by rfl) rfl ?_ ?_
  rotate_left
  · go_simp
    first | done | rfl
  refine hK_.out _ _ ⟨pw_cell_below (store3 HD0.out) HB7.out, pw_cell_below (store3 HD0.out) HB8.out⟩ (fun hHeld => ?_)
  clear hK_ Kq_
  refine done_ (done_of HT_.out (by kernel_rfl)) ?_
  clear HT_ hHeld
  go_upto_region 24 with (fail)
  obtain ⟨V21, hV21⟩ : ∃ W, W = (((V18.setCell ⟨g5, 3, none⟩ (.int .i64 (gv b 7 1))).setCell ⟨g5, 4, none⟩ (.int .i64 (gv b 8 1))).setCell ⟨g5, 5, none⟩ (.int .i64 (gv b 9 2))).drew := ⟨_, rfl⟩
  rw [← hV21]
  replace HD := Aside0.mk (show RS w V21 g5 ⟨gv b 0 1, gv b 1 2, gv b 3 4, gv b 7 1, gv b 8 1, gv b 9 2, 0, 0, 0, 0, []⟩ none 0 by rw [hV21]; exact RS.drew_ (((HD0.out.set_ 3 (.int .i64 (gv b 7 1)) (x' := ⟨gv b 0 1, gv b 1 2, gv b 3 4, gv b 7 1, 0, 0, 0, 0, 0, 0, []⟩) (A' := none) (c' := 0) rfl).set_ 4 (.int .i64 (gv b 8 1)) (x' := ⟨gv b 0 1, gv b 1 2, gv b 3 4, gv b 7 1, gv b 8 1, 0, 0, 0, 0, 0, []⟩) (A' := none) (c' := 0) rfl).set_ 5 (.int .i64 (gv b 9 2)) (x' := ⟨gv b 0 1, gv b 1 2, gv b 3 4, gv b 7 1, gv b 8 1, gv b 9 2, 0, 0, 0, 0, []⟩) (A' := none) (c' := 0) rfl))
  clear hV21 c0 c1 c2 c3 c4 c5 c6 c7 c8 c9 c10 z3 z4 z5
  have hx5 := HD.out.cell
  obtain ⟨c0, c1, c2, c3, c4, c5, c6, c7, c8, c9⟩ := cel_at (x := ⟨gv b 0 1, gv b 1 2, gv b 3 4, gv b 7 1, gv b 8 1, gv b 9 2, 0, 0, 0, 0, []⟩) (A := none) (c := 0) hx5
  have c10 : V21.cell? ⟨g5, 10, none⟩ = some (.slice none 0 0) := blk_cell hx5 10
  (try simp only at c0 c1 c2 c3 c4 c5 c6 c7 c8 c9)
  have z6 := blk_frozen hx5 6
  clear hx5
  go_upto_region 36 with (go_at_call 42; go_must (refine (refget_any B11 2 (c - 11) _ _ (Kd.C_below R11.out HD.out.bel) ((HY.out.drop _).take _) (by decide)).mono ?_; rintro e w' ⟨rfl, rfl⟩; rw [GV11.out]))
  obtain ⟨V24, hV24⟩ : ∃ W, W = (V21.setCell ⟨g5, 6, none⟩ (.int .u64 (gv b 11 2))) := ⟨_, rfl⟩
  rw [← hV24]
  replace HD := Aside0.mk (show RS w V24 g5 ⟨gv b 0 1, gv b 1 2, gv b 3 4, gv b 7 1, gv b 8 1, gv b 9 2, gv b 11 2, 0, 0, 0, []⟩ none 0 by rw [hV24]; exact (HD.out.set_ 6 (.int .u64 (gv b 11 2)) (x' := ⟨gv b 0 1, gv b 1 2, gv b 3 4, gv b 7 1, gv b 8 1, gv b 9 2, gv b 11 2, 0, 0, 0, []⟩) (A' := none) (c' := 0) rfl))
  clear hV24 c0 c1 c2 c3 c4 c5 c6 c7 c8 c9 c10 z6
  have HL2 := HLEN
  replace HD := Aside0.mk (show RS w V24 g5 x9 none 0 by rw [hx9.out]; exact HD.out)
  have HRX := Aside0.mk (show RdN v none x9.body.length x9.body by rw [hx9.out]; exact RdB_nil _)
  have hx5 := HD.out.cell
  obtain ⟨c0, c1, c2, c3, c4, c5, c6, c7, c8, c9⟩ := cel_at (x := x9) (A := none) (c := 0) hx5
  have c10 : V24.cell? ⟨g5, 10, none⟩ = some (.slice none x9.body.length 0) := blk_cell hx5 10
  (try simp only at c0 c1 c2 c3 c4 c5 c6 c7 c8 c9)
  clear hx5
  have hxr := HD.out.res
  have t0 : V24.cell? ⟨w.heap.size, 0, none⟩ = some (.int .i64 0) := blk_cell hxr 0
  have t1 : V24.cell? ⟨w.heap.size, 1, none⟩ = some (.int .u64 0) := blk_cell hxr 1
  have t2 : V24.cell? ⟨w.heap.size, 2, none⟩ = some (.int .i64 0) := blk_cell hxr 2
  have t3 : V24.cell? ⟨w.heap.size, 3, none⟩ = some (.int .i64 0) := blk_cell hxr 3
  have t4 : V24.cell? ⟨w.heap.size, 4, none⟩ = some (.int .i64 0) := blk_cell hxr 4
  have t5 : V24.cell? ⟨w.heap.size, 5, none⟩ = some (.int .i64 0) := blk_cell hxr 5
  have t6 : V24.cell? ⟨w.heap.size, 6, none⟩ = some (.int .u64 0) := blk_cell hxr 6
  have t7 : V24.cell? ⟨w.heap.size, 7, none⟩ = some (.int .i64 0) := blk_cell hxr 7
  have t8 : V24.cell? ⟨w.heap.size, 8, none⟩ = some (.int .i64 0) := blk_cell hxr 8
  have t9 : V24.cell? ⟨w.heap.size, 9, none⟩ = some (.int .i64 0) := blk_cell hxr 9
  have t10 : V24.cell? ⟨w.heap.size, 10, none⟩ = some (.slice none 0 0) := blk_cell hxr 10
  have zt0 := blk_frozen hxr 0
  have zt1 := blk_frozen hxr 1
  have zt2 := blk_frozen hxr 2
  have zt3 := blk_frozen hxr 3
  have zt4 := blk_frozen hxr 4
  have zt5 := blk_frozen hxr 5
  have zt6 := blk_frozen hxr 6
  have zt7 := blk_frozen hxr 7
  have zt8 := blk_frozen hxr 8
  have zt9 := blk_frozen hxr 9
  have zt10 := blk_frozen hxr 10
  clear hxr
  cases hq : rightB x9 with
  | false =>
    have HE := Aside0.mk (show res = (cel0, 0, 3) by rw [hres.out, if_neg HL2.out, if_neg (by rw [hq]; simp)])
    go_wp2_with (go_at_call 10; go_must (refine (refright_any x9 none 0 _ (Kd.C_below (Kd.C_below HRX.out HVW.out) HD.out.bel) hwf.out.2.2).mono ?_; rintro e y9 ⟨rfl, hb⟩; rw [hq]; replace HD := Aside0.mk (HD.out.below hb); clear c0 c1 c2 c3 c4 c5 c6 c7 c8 c9 c10 t0 zt0 t1 zt1 t2 zt2 t3 zt3 t4 zt4 t5 zt5 t6 zt6 t7 zt7 t8 zt8 t9 zt9 t10 zt10; have hx5 := HD.out.cell; obtain ⟨c0, c1, c2, c3, c4, c5, c6, c7, c8, c9⟩ := cel_at (x := x9) (A := none) (c := 0) hx5; have c10 : y9.cell? ⟨g5, 10, none⟩ = some (.slice none x9.body.length 0) := blk_cell hx5 10; (try simp only at c0 c1 c2 c3 c4 c5 c6 c7 c8 c9); clear hx5; have hxr := HD.out.res; have t0 : y9.cell? ⟨w.heap.size, 0, none⟩ = some (.int .i64 0) := blk_cell hxr 0; have t1 : y9.cell? ⟨w.heap.size, 1, none⟩ = some (.int .u64 0) := blk_cell hxr 1; have t2 : y9.cell? ⟨w.heap.size, 2, none⟩ = some (.int .i64 0) := blk_cell hxr 2; have t3 : y9.cell? ⟨w.heap.size, 3, none⟩ = some (.int .i64 0) := blk_cell hxr 3; have t4 : y9.cell? ⟨w.heap.size, 4, none⟩ = some (.int .i64 0) := blk_cell hxr 4; have t5 : y9.cell? ⟨w.heap.size, 5, none⟩ = some (.int .i64 0) := blk_cell hxr 5; have t6 : y9.cell? ⟨w.heap.size, 6, none⟩ = some (.int .u64 0) := blk_cell hxr 6; have t7 : y9.cell? ⟨w.heap.size, 7, none⟩ = some (.int .i64 0) := blk_cell hxr 7; have t8 : y9.cell? ⟨w.heap.size, 8, none⟩ = some (.int .i64 0) := blk_cell hxr 8; have t9 : y9.cell? ⟨w.heap.size, 9, none⟩ = some (.int .i64 0) := blk_cell hxr 9; have t10 : y9.cell? ⟨w.heap.size, 10, none⟩ = some (.slice none 0 0) := blk_cell hxr 10; have zt0 := blk_frozen hxr 0; have zt1 := blk_frozen hxr 1; have zt2 := blk_frozen hxr 2; have zt3 := blk_frozen hxr 3; have zt4 := blk_frozen hxr 4; have zt5 := blk_frozen hxr 5; have zt6 := blk_frozen hxr 6; have zt7 := blk_frozen hxr 7; have zt8 := blk_frozen hxr 8; have zt9 := blk_frozen hxr 9; have zt10 := blk_frozen hxr 10; clear hxr; clear hb))
    obtain ⟨W9, hW9⟩ : ∃ W9, W9 = (((((((((((y9.setCell ⟨w.heap.size, 0, none⟩ (.int .i64 0)).setCell ⟨w.heap.size, 1, none⟩ (.int .u64 0)).setCell ⟨w.heap.size, 2, none⟩ (.int .i64 0)).setCell ⟨w.heap.size, 3, none⟩ (.int .i64 0)).setCell ⟨w.heap.size, 4, none⟩ (.int .i64 0)).setCell ⟨w.heap.size, 5, none⟩ (.int .i64 0)).setCell ⟨w.heap.size, 6, none⟩ (.int .u64 0)).setCell ⟨w.heap.size, 7, none⟩ (.int .i64 0)).setCell ⟨w.heap.size, 8, none⟩ (.int .i64 0)).setCell ⟨w.heap.size, 9, none⟩ (.int .i64 0)).setCell ⟨w.heap.size, 10, none⟩ (.slice none 0 0)) := ⟨_, rfl⟩
    rw [← hW9]
    have hr9 : W9.heap[w.heap.size]? = some (.cells (celA cel0 none 0) 30 (0, 0)) := by rw [hW9]; exact putCell_at (x := cel0) (A := none) (c := 0) HD.out.res
    have hb9 : Below w.heap.size w W9 := by rw [hW9]; exact putCell_below (x := cel0) (A := none) (c := 0) HD.out.bel (Nat.le_refl _)
    clear hW9 t0 t1 t2 t3 t4 t5 t6 t7 t8 t9 t10
    have t0 : W9.cell? ⟨w.heap.size, 0, none⟩ = some (.int .i64 0) := blk_cell hr9 0
    have t1 : W9.cell? ⟨w.heap.size, 1, none⟩ = some (.int .u64 0) := blk_cell hr9 1
    have t2 : W9.cell? ⟨w.heap.size, 2, none⟩ = some (.int .i64 0) := blk_cell hr9 2
    have t3 : W9.cell? ⟨w.heap.size, 3, none⟩ = some (.int .i64 0) := blk_cell hr9 3
    have t4 : W9.cell? ⟨w.heap.size, 4, none⟩ = some (.int .i64 0) := blk_cell hr9 4
    have t5 : W9.cell? ⟨w.heap.size, 5, none⟩ = some (.int .i64 0) := blk_cell hr9 5
    have t6 : W9.cell? ⟨w.heap.size, 6, none⟩ = some (.int .u64 0) := blk_cell hr9 6
    have t7 : W9.cell? ⟨w.heap.size, 7, none⟩ = some (.int .i64 0) := blk_cell hr9 7
    have t8 : W9.cell? ⟨w.heap.size, 8, none⟩ = some (.int .i64 0) := blk_cell hr9 8
    have t9 : W9.cell? ⟨w.heap.size, 9, none⟩ = some (.int .i64 0) := blk_cell hr9 9
    have t10 : W9.cell? ⟨w.heap.size, 10, none⟩ = some (.slice none 0 0) := blk_cell hr9 10
    refine bodyPost_ret (v := .tuple #[.agg (celA cel0 none 0), .int .i64 0, .int .i64 3]) (by simp [results, Try.results28, go_sem, cel0, t0, t1, t2, t3, t4, t5, t6, t7, t8, t9, t10]) rfl ?_
    rw [HE.out]
    exact ⟨⟨none, 0, rfl, RdB_nil _⟩, hb9⟩
  | true =>
    have HE := Aside0.mk (show res = (x9, ((13 : Nat) : Int), 0) by rw [hres.out, if_neg HL2.out, if_pos hq])
    go_wp2_with (go_at_call 10; go_must (refine (refright_any x9 none 0 _ (Kd.C_below (Kd.C_below HRX.out HVW.out) HD.out.bel) hwf.out.2.2).mono ?_; rintro e y9 ⟨rfl, hb⟩; rw [hq]; replace HD := Aside0.mk (HD.out.below hb); clear c0 c1 c2 c3 c4 c5 c6 c7 c8 c9 c10 t0 zt0 t1 zt1 t2 zt2 t3 zt3 t4 zt4 t5 zt5 t6 zt6 t7 zt7 t8 zt8 t9 zt9 t10 zt10; have hx5 := HD.out.cell; obtain ⟨c0, c1, c2, c3, c4, c5, c6, c7, c8, c9⟩ := cel_at (x := x9) (A := none) (c := 0) hx5; have c10 : y9.cell? ⟨g5, 10, none⟩ = some (.slice none x9.body.length 0) := blk_cell hx5 10; (try simp only at c0 c1 c2 c3 c4 c5 c6 c7 c8 c9); clear hx5; have hxr := HD.out.res; have t0 : y9.cell? ⟨w.heap.size, 0, none⟩ = some (.int .i64 0) := blk_cell hxr 0; have t1 : y9.cell? ⟨w.heap.size, 1, none⟩ = some (.int .u64 0) := blk_cell hxr 1; have t2 : y9.cell? ⟨w.heap.size, 2, none⟩ = some (.int .i64 0) := blk_cell hxr 2; have t3 : y9.cell? ⟨w.heap.size, 3, none⟩ = some (.int .i64 0) := blk_cell hxr 3; have t4 : y9.cell? ⟨w.heap.size, 4, none⟩ = some (.int .i64 0) := blk_cell hxr 4; have t5 : y9.cell? ⟨w.heap.size, 5, none⟩ = some (.int .i64 0) := blk_cell hxr 5; have t6 : y9.cell? ⟨w.heap.size, 6, none⟩ = some (.int .u64 0) := blk_cell hxr 6; have t7 : y9.cell? ⟨w.heap.size, 7, none⟩ = some (.int .i64 0) := blk_cell hxr 7; have t8 : y9.cell? ⟨w.heap.size, 8, none⟩ = some (.int .i64 0) := blk_cell hxr 8; have t9 : y9.cell? ⟨w.heap.size, 9, none⟩ = some (.int .i64 0) := blk_cell hxr 9; have t10 : y9.cell? ⟨w.heap.size, 10, none⟩ = some (.slice none 0 0) := blk_cell hxr 10; have zt0 := blk_frozen hxr 0; have zt1 := blk_frozen hxr 1; have zt2 := blk_frozen hxr 2; have zt3 := blk_frozen hxr 3; have zt4 := blk_frozen hxr 4; have zt5 := blk_frozen hxr 5; have zt6 := blk_frozen hxr 6; have zt7 := blk_frozen hxr 7; have zt8 := blk_frozen hxr 8; have zt9 := blk_frozen hxr 9; have zt10 := blk_frozen hxr 10; clear hxr; clear hb))
    obtain ⟨W9, hW9⟩ : ∃ W9, W9 = (((((((((((y9.setCell ⟨w.heap.size, 0, none⟩ (.int .i64 x9.kind)).setCell ⟨w.heap.size, 1, none⟩ (.int .u64 x9.num)).setCell ⟨w.heap.size, 2, none⟩ (.int .i64 x9.min)).setCell ⟨w.heap.size, 3, none⟩ (.int .i64 x9.br)).setCell ⟨w.heap.size, 4, none⟩ (.int .i64 x9.vol)).setCell ⟨w.heap.size, 5, none⟩ (.int .i64 x9.blk)).setCell ⟨w.heap.size, 6, none⟩ (.int .u64 x9.ref)).setCell ⟨w.heap.size, 7, none⟩ (.int .i64 x9.fr)).setCell ⟨w.heap.size, 8, none⟩ (.int .i64 x9.to)).setCell ⟨w.heap.size, 9, none⟩ (.int .i64 x9.un)).setCell ⟨w.heap.size, 10, none⟩ (.slice none x9.body.length 0)) := ⟨_, rfl⟩
    rw [← hW9]
    have hr9 : W9.heap[w.heap.size]? = some (.cells (celA x9 none 0) 30 (0, 0)) := by rw [hW9]; exact putCell_at (x := x9) (A := none) (c := 0) HD.out.res
    have hb9 : Below w.heap.size w W9 := by rw [hW9]; exact putCell_below (x := x9) (A := none) (c := 0) HD.out.bel (Nat.le_refl _)
    clear hW9 t0 t1 t2 t3 t4 t5 t6 t7 t8 t9 t10
    have t0 : W9.cell? ⟨w.heap.size, 0, none⟩ = some (.int .i64 x9.kind) := blk_cell hr9 0
    have t1 : W9.cell? ⟨w.heap.size, 1, none⟩ = some (.int .u64 x9.num) := blk_cell hr9 1
    have t2 : W9.cell? ⟨w.heap.size, 2, none⟩ = some (.int .i64 x9.min) := blk_cell hr9 2
    have t3 : W9.cell? ⟨w.heap.size, 3, none⟩ = some (.int .i64 x9.br) := blk_cell hr9 3
    have t4 : W9.cell? ⟨w.heap.size, 4, none⟩ = some (.int .i64 x9.vol) := blk_cell hr9 4
    have t5 : W9.cell? ⟨w.heap.size, 5, none⟩ = some (.int .i64 x9.blk) := blk_cell hr9 5
    have t6 : W9.cell? ⟨w.heap.size, 6, none⟩ = some (.int .u64 x9.ref) := blk_cell hr9 6
    have t7 : W9.cell? ⟨w.heap.size, 7, none⟩ = some (.int .i64 x9.fr) := blk_cell hr9 7
    have t8 : W9.cell? ⟨w.heap.size, 8, none⟩ = some (.int .i64 x9.to) := blk_cell hr9 8
    have t9 : W9.cell? ⟨w.heap.size, 9, none⟩ = some (.int .i64 x9.un) := blk_cell hr9 9
    have t10 : W9.cell? ⟨w.heap.size, 10, none⟩ = some (.slice none x9.body.length 0) := blk_cell hr9 10
    refine bodyPost_ret (v := .tuple #[.agg (celA x9 none 0), .int .i64 ((13 : Nat) : Int), .int .i64 0]) (by simp [results, Try.results28, go_sem, t0, t1, t2, t3, t4, t5, t6, t7, t8, t9, t10]) rfl ?_
    rw [HE.out]
    exact ⟨⟨none, 0, rfl, HRX.out⟩, hb9⟩
set_option maxHeartbeats 6400000 in
set_option maxRecDepth 100000 in
theorem refdec_p (A : Option Addr) (c : Nat) (b : List Int) (v w : World) (hv : Below v.heap.size v w) (hr : RdB v A b) (hc : b.length ≤ c) (hy : Byt b) (hl1000 : b.length ≤ 1000) (h00 : b.length ≠ 0) (hP : Aside0 (hasPlace (gv b 0 1) = true ∧ hasRef (gv b 0 1) = false ∧ hasMin (gv b 0 1) = false ∧ hasBody (gv b 0 1) = false)) (hk1 : decide (gv b 0 1 < 1) = false) (hk8 : decide (8 < gv b 0 1) = false) (nb : Nat) (hnb : Aside0 (nb = 0))
    (x9 : Cel) (hx9 : Aside0 (x9 = ⟨gv b 0 1, gv b 1 2, gv b 3 4, gv b 7 1, gv b 8 1, gv b 9 2, 0, 0, 0, 0, []⟩)) (hwf : Aside0 (CelWf x9)) (res : Cel × Int × Int)
    (hres : Aside0 (res = if b.length < 11 then (cel0, 0, 14) else if rightB x9 then (x9, ((11 : Nat) : Int), 0) else (cel0, 0, 3))) :
    Calls Try.prog 28 #[.slice A b.length c] w fun e w' => RDecdV v w w' e res := by
  have hmx := C_max hr
  have HVW := Aside0.mk hv
  have HRV := Aside0.mk hr
  replace hr := Kd.C_below hr hv
  have HR := Aside0.mk hr
  have HY := Aside0.mk hy
  have HC := Aside0.mk hc
  obtain ⟨ad, rfl, h0⟩ := cell_in hr 0 (by omega)
  rw [add_0] at h0
  have hg0 := gv_range hy 0 1
  have e0 : IntKind.i64.wrap (gv b 0 1) = gv b 0 1 := IntWalk.i64_in _ (by omega)
  clear hr hy hc hg0 hv
  have hb0 : (b.length : Int) ≠ 0 := by omega
  have fb0 : ((b.length : Int) == 0) = false := beq_eq_false_iff_ne.2 hb0
  have hbi : (0 : Int) < (b.length : Int) := by omega
  go_enter Try.func28, Try.ntmps28
  go_upto_region 3 with (fail)
  obtain ⟨W0, hW0⟩ : ∃ W0, W0 = w.alloc (.cells #[.int .i64 0, .int .u64 0, .int .i64 0, .int .i64 0, .int .i64 0, .int .i64 0, .int .u64 0, .int .i64 0, .int .i64 0, .int .i64 0, .slice none 0 0] 30) := ⟨_, rfl⟩
  rw [← hW0]
  have hb1 : Below w.heap.size w W0 := by rw [hW0]; exact below_alloc (Below.refl _ _) _
  have hres0 : W0.heap[w.heap.size]? = some (.cells (celA cel0 none 0) 30 (0, 0)) := by rw [hW0]; exact blk_new _ _
  have h0' := pw_cell_below hb1 h0
  have hsz : W0.heap.size = w.heap.size + 1 := by rw [hW0]; simp
  have HS0 := Aside0.mk (And.intro hb1 (And.intro hres0 hsz))
  clear hW0 hb1 hres0 h0 hsz
  by_cases hlt : b.length < 11
  · have HE := Aside0.mk (show res = (cel0, 0, 14) by rw [hres.out, if_pos (by omega)])
    go_upto_region 17 with (go_at_call 38; go_must (refine (refhas_any (gv b 0 1) _).mono ?_; rintro e w3 ⟨rfl, rfl⟩; rw [hP.out.1, hP.out.2.1, hP.out.2.2.1, hP.out.2.2.2]))
    obtain ⟨W1, hW1⟩ : ∃ W1, W1 = W0.alloc (.cells #[.int .i64 (gv b 0 1), .int .u64 0, .int .i64 0, .int .i64 0, .int .i64 0, .int .i64 0, .int .u64 0, .int .i64 0, .int .i64 0, .int .i64 0, .slice none 0 0] 30) := ⟨_, rfl⟩
    rw [← hW1]
    have HD := Aside0.mk (show RS w W1 W0.heap.size ⟨gv b 0 1, 0, 0, 0, 0, 0, 0, 0, 0, 0, []⟩ none 0 from { cell := (by rw [hW1]; exact blk_new _ _), res := (by rw [hW1]; exact blk_alloc HS0.out.2.1 _), bel := (by rw [hW1]; exact HS0.out.1.alloc (by rw [HS0.out.2.2]; omega) _), ord := (by rw [HS0.out.2.2]; omega) })
    obtain ⟨g5, hg5⟩ : ∃ g, g = W0.heap.size := ⟨_, rfl⟩
    rw [← hg5] at HD ⊢
    clear hW1 hg5 h0'
    have hxr := HD.out.res
    have t0 : W1.cell? ⟨w.heap.size, 0, none⟩ = some (.int .i64 0) := blk_cell hxr 0
    have t1 : W1.cell? ⟨w.heap.size, 1, none⟩ = some (.int .u64 0) := blk_cell hxr 1
    have t2 : W1.cell? ⟨w.heap.size, 2, none⟩ = some (.int .i64 0) := blk_cell hxr 2
    have t3 : W1.cell? ⟨w.heap.size, 3, none⟩ = some (.int .i64 0) := blk_cell hxr 3
    have t4 : W1.cell? ⟨w.heap.size, 4, none⟩ = some (.int .i64 0) := blk_cell hxr 4
    have t5 : W1.cell? ⟨w.heap.size, 5, none⟩ = some (.int .i64 0) := blk_cell hxr 5
    have t6 : W1.cell? ⟨w.heap.size, 6, none⟩ = some (.int .u64 0) := blk_cell hxr 6
    have t7 : W1.cell? ⟨w.heap.size, 7, none⟩ = some (.int .i64 0) := blk_cell hxr 7
    have t8 : W1.cell? ⟨w.heap.size, 8, none⟩ = some (.int .i64 0) := blk_cell hxr 8
    have t9 : W1.cell? ⟨w.heap.size, 9, none⟩ = some (.int .i64 0) := blk_cell hxr 9
    have t10 : W1.cell? ⟨w.heap.size, 10, none⟩ = some (.slice none 0 0) := blk_cell hxr 10
    have zt0 := blk_frozen hxr 0
    have zt1 := blk_frozen hxr 1
    have zt2 := blk_frozen hxr 2
    have zt3 := blk_frozen hxr 3
    have zt4 := blk_frozen hxr 4
    have zt5 := blk_frozen hxr 5
    have zt6 := blk_frozen hxr 6
    have zt7 := blk_frozen hxr 7
    have zt8 := blk_frozen hxr 8
    have zt9 := blk_frozen hxr 9
    have zt10 := blk_frozen hxr 10
    clear hxr
    go_wp2
    obtain ⟨W9, hW9⟩ : ∃ W9, W9 = (((((((((((W1.setCell ⟨w.heap.size, 0, none⟩ (.int .i64 0)).setCell ⟨w.heap.size, 1, none⟩ (.int .u64 0)).setCell ⟨w.heap.size, 2, none⟩ (.int .i64 0)).setCell ⟨w.heap.size, 3, none⟩ (.int .i64 0)).setCell ⟨w.heap.size, 4, none⟩ (.int .i64 0)).setCell ⟨w.heap.size, 5, none⟩ (.int .i64 0)).setCell ⟨w.heap.size, 6, none⟩ (.int .u64 0)).setCell ⟨w.heap.size, 7, none⟩ (.int .i64 0)).setCell ⟨w.heap.size, 8, none⟩ (.int .i64 0)).setCell ⟨w.heap.size, 9, none⟩ (.int .i64 0)).setCell ⟨w.heap.size, 10, none⟩ (.slice none 0 0)) := ⟨_, rfl⟩
    rw [← hW9]
    have hr9 : W9.heap[w.heap.size]? = some (.cells (celA cel0 none 0) 30 (0, 0)) := by rw [hW9]; exact putCell_at (x := cel0) (A := none) (c := 0) HD.out.res
    have hb9 : Below w.heap.size w W9 := by rw [hW9]; exact putCell_below (x := cel0) (A := none) (c := 0) HD.out.bel (Nat.le_refl _)
    clear hW9 t0 t1 t2 t3 t4 t5 t6 t7 t8 t9 t10
    have t0 : W9.cell? ⟨w.heap.size, 0, none⟩ = some (.int .i64 0) := blk_cell hr9 0
    have t1 : W9.cell? ⟨w.heap.size, 1, none⟩ = some (.int .u64 0) := blk_cell hr9 1
    have t2 : W9.cell? ⟨w.heap.size, 2, none⟩ = some (.int .i64 0) := blk_cell hr9 2
    have t3 : W9.cell? ⟨w.heap.size, 3, none⟩ = some (.int .i64 0) := blk_cell hr9 3
    have t4 : W9.cell? ⟨w.heap.size, 4, none⟩ = some (.int .i64 0) := blk_cell hr9 4
    have t5 : W9.cell? ⟨w.heap.size, 5, none⟩ = some (.int .i64 0) := blk_cell hr9 5
    have t6 : W9.cell? ⟨w.heap.size, 6, none⟩ = some (.int .u64 0) := blk_cell hr9 6
    have t7 : W9.cell? ⟨w.heap.size, 7, none⟩ = some (.int .i64 0) := blk_cell hr9 7
    have t8 : W9.cell? ⟨w.heap.size, 8, none⟩ = some (.int .i64 0) := blk_cell hr9 8
    have t9 : W9.cell? ⟨w.heap.size, 9, none⟩ = some (.int .i64 0) := blk_cell hr9 9
    have t10 : W9.cell? ⟨w.heap.size, 10, none⟩ = some (.slice none 0 0) := blk_cell hr9 10
    refine bodyPost_ret (v := .tuple #[.agg (celA cel0 none 0), .int .i64 0, .int .i64 14]) (by simp [results, Try.results28, go_sem, cel0, t0, t1, t2, t3, t4, t5, t6, t7, t8, t9, t10]) rfl ?_
    rw [HE.out]
    exact ⟨⟨none, 0, rfl, RdB_nil _⟩, hb9⟩
  obtain ⟨B1, q1, r1⟩ := cutG HR.out HC.out 1 2 1 3 rfl rfl (by omega)
  have R1 := Aside0.mk r1
  have hg1 := gv_range HY.out 1 2
  have GV1 := Aside0.mk (gv_val (b := b) (m := 1) (n := 2) (by omega))
  clear r1 hg1
  obtain ⟨B3, q3, r3⟩ := cutG HR.out HC.out 3 4 3 7 rfl rfl (by omega)
  have R3 := Aside0.mk r3
  have hg3 := gv_range HY.out 3 4
  have GV3 := Aside0.mk (gv_val (b := b) (m := 3) (n := 4) (by omega))
  have i3 : IntKind.i64.wrap (gv b 3 4) = gv b 3 4 := IntWalk.i64_in _ (by omega)
  clear r3 hg3
  obtain ⟨B9, q9, r9⟩ := cutG HR.out HC.out 9 2 9 11 rfl rfl (by omega)
  have R9 := Aside0.mk r9
  have hg9 := gv_range HY.out 9 2
  have GV9 := Aside0.mk (gv_val (b := b) (m := 9) (n := 2) (by omega))
  have i9 : IntKind.i64.wrap (gv b 9 2) = gv b 9 2 := IntWalk.i64_in _ (by omega)
  clear r9 hg9
  obtain ⟨ad7, he7, hb7⟩ := cell_in HR.out 7 (by omega)
  obtain rfl : ad = ad7 := by simpa using he7
  rw [add_k _ _ (by decide)] at hb7
  have HB7 := Aside0.mk hb7
  have hg7 := gv_range HY.out 7 1
  have i7 : IntKind.i64.wrap (gv b 7 1) = gv b 7 1 := IntWalk.i64_in _ (by omega)
  have hq7 : (7 : Int) < (b.length : Int) := by omega
  clear he7 hb7 hg7
  obtain ⟨ad8, he8, hb8⟩ := cell_in HR.out 8 (by omega)
  obtain rfl : ad = ad8 := by simpa using he8
  rw [add_k _ _ (by decide)] at hb8
  have HB8 := Aside0.mk hb8
  have hg8 := gv_range HY.out 8 1
  have i8 : IntKind.i64.wrap (gv b 8 1) = gv b 8 1 := IntWalk.i64_in _ (by omega)
  have hq8 : (8 : Int) < (b.length : Int) := by omega
  clear he8 hb8 hg8
  have HLEN := Aside0.mk hlt
  have hlt' : ¬ (b.length : Int) < 11 := by omega
  clear hlt
  go_upto_region 18 with (go_at_call 38; go_must (refine (refhas_any (gv b 0 1) _).mono ?_; rintro e w3 ⟨rfl, rfl⟩; rw [hP.out.1, hP.out.2.1, hP.out.2.2.1, hP.out.2.2.2]))
  obtain ⟨W1, hW1⟩ : ∃ W1, W1 = W0.alloc (.cells #[.int .i64 (gv b 0 1), .int .u64 0, .int .i64 0, .int .i64 0, .int .i64 0, .int .i64 0, .int .u64 0, .int .i64 0, .int .i64 0, .int .i64 0, .slice none 0 0] 30) := ⟨_, rfl⟩
  rw [← hW1]
  have HD := Aside0.mk (show RS w W1 W0.heap.size ⟨gv b 0 1, 0, 0, 0, 0, 0, 0, 0, 0, 0, []⟩ none 0 from { cell := (by rw [hW1]; exact blk_new _ _), res := (by rw [hW1]; exact blk_alloc HS0.out.2.1 _), bel := (by rw [hW1]; exact HS0.out.1.alloc (by rw [HS0.out.2.2]; omega) _), ord := (by rw [HS0.out.2.2]; omega) })
  obtain ⟨g5, hg5⟩ : ∃ g, g = W0.heap.size := ⟨_, rfl⟩
  rw [← hg5] at HD ⊢
  clear hW1 hg5 h0'
  have hx5 := HD.out.cell
  obtain ⟨c0, c1, c2, c3, c4, c5, c6, c7, c8, c9⟩ := cel_at (x := ⟨gv b 0 1, 0, 0, 0, 0, 0, 0, 0, 0, 0, []⟩) (A := none) (c := 0) hx5
  have c10 : W1.cell? ⟨g5, 10, none⟩ = some (.slice none 0 0) := blk_cell hx5 10
  (try simp only at c0 c1 c2 c3 c4 c5 c6 c7 c8 c9)
  have z1 := blk_frozen hx5 1
  have z2 := blk_frozen hx5 2
  clear hx5
  go_wp2_with (fail)
  have HD0 := HD
  refine start_ (n := 11) (S := fun w' => True) (ds := []) #[false, false, false, false, false, false, false, false, false, false, false] (by kernel_rfl) rfl rfl trivial (fun hHeld => ?_); refine with_tab tabX18_ok (fun HT_ => ?_)
  have hb : Below W1.heap.size W1 W1.drew := below_drew (Below.refl _ _)
  replace HD := Aside0.mk (HD.out.below hb)
  clear hb
  refine pure_ (i := 0) (N := some 56) (v := ?_) (a' := ?_) #[true, false, false, false, false, false, false, false, false, false, false] rfl rfl (any_of HT_.out (by kernel_rfl)) (fun _ _ _ h => h) (Or.inl ⟨by rfl, ?_⟩) ?_ ?_
  rotate_left
  · intro w'
    go_simp
    with_reducible rfl
  rotate_left
  · simp only [Act.put, List.setIfInBounds_toArray, List.set_cons_zero, List.set_cons_succ]
    rfl
  refine pure_ (i := 1) (N := some 57) (v := ?_) (a' := ?_) #[true, true, false, false, false, false, false, false, false, false, false] rfl rfl (any_of HT_.out (by kernel_rfl)) (fun _ _ _ h => h) (Or.inl ⟨by rfl, ?_⟩) ?_ ?_
  rotate_left
  · intro w'
    go_simp
    with_reducible rfl
  rotate_left
  · simp only [Act.put, List.setIfInBounds_toArray, List.set_cons_zero, List.set_cons_succ]
    rfl
  refine pure_ (i := 3) (N := some 59) (v := ?_) (a' := ?_) #[true, true, false, true, false, false, false, false, false, false, false] rfl rfl (any_of HT_.out (by kernel_rfl)) (fun _ _ _ h => h) (Or.inl ⟨by rfl, ?_⟩) ?_ ?_
  rotate_left
  · intro w'
    go_simp
    with_reducible rfl
  rotate_left
  · simp only [Act.put, List.setIfInBounds_toArray, List.set_cons_zero, List.set_cons_succ]
    rfl
  refine pure_ (i := 4) (N := some 60) (v := ?_) (a' := ?_) #[true, true, false, true, true, false, false, false, false, false, false] rfl rfl (any_of HT_.out (by kernel_rfl)) (fun _ _ _ h => h) (Or.inl ⟨by rfl, ?_⟩) ?_ ?_
  rotate_left
  · intro w'
    go_simp
    with_reducible rfl
  rotate_left
  · simp only [Act.put, List.setIfInBounds_toArray, List.set_cons_zero, List.set_cons_succ]
    rfl
  refine one_ (i := 2) (N := some 58) #[true, true, true, true, true, false, false, false, false, false, false] rfl rfl (one_of HT_.out (by kernel_rfl)) (by decide) (fun Kq_ hK_ => ?_)
  refine goes_ Try.func42 (by kernel_rfl) rfl #[.slice B1 2 (c - 1)] (by rfl) rfl rfl (by (try simp only [List.map_toArray, List.map_cons, List.map_nil]); first | done | rfl) ?_
  with_reducible refine (refget_any B1 2 (c - 1) _ _ (Kd.C_below R1.out HD.out.bel) ((HY.out.drop _).take _) (by decide)).mono ?_
  rintro e w' ⟨rfl, rfl⟩
  refine ⟨_, rfl, ?_⟩
  rw [GV1.out]
  refine hK_.out _ _ trivial (fun hHeld => ?_)
  clear hK_ Kq_
  refine norm_ (a' := ?_) ?_ ?_
  rotate_left
  · show Act.put _ (some 58) _ = _
    simp only [Act.put, List.setIfInBounds_toArray, List.set_cons_zero, List.set_cons_succ]
    rfl
  refine pure_ (i := 7) (N := some 63) (v := ?_) (a' := ?_) #[true, true, true, true, true, false, false, true, false, false, false] rfl rfl (any_of HT_.out (by kernel_rfl)) (fun _ _ _ h => h) (Or.inl ⟨by rfl, ?_⟩) ?_ ?_
  rotate_left
  · intro w'
    go_simp
    with_reducible rfl
  rotate_left
  · simp only [Act.put, List.setIfInBounds_toArray, List.set_cons_zero, List.set_cons_succ]
    rfl
  refine one_ (i := 5) (N := some 61) #[true, true, true, true, true, true, false, true, false, false, false] rfl rfl (one_of HT_.out (by kernel_rfl)) (by decide) (fun Kq_ hK_ => ?_)
  refine goes_ Try.func42 (by kernel_rfl) rfl #[.slice B3 4 (c - 3)] (by rfl) rfl rfl (by (try simp only [List.map_toArray, List.map_cons, List.map_nil]); first | done | rfl) ?_
  with_reducible refine (refget_any B3 4 (c - 3) _ _ (Kd.C_below R3.out HD.out.bel) ((HY.out.drop _).take _) (by decide)).mono ?_
  rintro e w' ⟨rfl, rfl⟩
  refine ⟨_, rfl, ?_⟩
  rw [GV3.out]
  refine hK_.out _ _ trivial (fun hHeld => ?_)
  clear hK_ Kq_
  refine norm_ (a' := ?_) ?_ ?_
  rotate_left
  · show Act.put _ (some 61) _ = _
    simp only [Act.put, List.setIfInBounds_toArray, List.set_cons_zero, List.set_cons_succ]
    rfl
  refine pure_ (i := 6) (N := some 62) (v := ?_) (a' := ?_) #[true, true, true, true, true, true, true, true, false, false, false] rfl rfl (any_of HT_.out (by kernel_rfl)) (fun _ _ _ h => h) (Or.inl ⟨by rfl, ?_⟩) ?_ ?_
  rotate_left
  · intro w'
    go_simp
    with_reducible rfl
  rotate_left
  · simp only [Act.put, List.setIfInBounds_toArray, List.set_cons_zero, List.set_cons_succ]
    rfl
  refine one_ (i := 8) (N := none) #[true, true, true, true, true, true, true, true, true, false, false] rfl rfl (one_of HT_.out (by kernel_rfl)) (by decide) (fun Kq_ hK_ => ?_)
  refine skip_ (w1 := ?_) (by rfl) rfl ?_ ?_
  rotate_left
  · go_simp
    first | done | rfl
  refine hK_.out _ _ trivial (fun hHeld => ?_)
  clear hK_ Kq_
  refine pure_ (i := 9) (N := some 64) (v := ?_) (a' := ?_) #[true, true, true, true, true, true, true, true, true, true, false] rfl rfl (any_of HT_.out (by kernel_rfl)) (fun _ _ _ h => h) (Or.inl ⟨by rfl, ?_⟩) ?_ ?_
  rotate_left
  · intro w'
    go_simp
    with_reducible rfl
  rotate_left
  · simp only [Act.put, List.setIfInBounds_toArray, List.set_cons_zero, List.set_cons_succ]
    rfl
  refine one_ (i := 10) (N := none) #[true, true, true, true, true, true, true, true, true, true, true] rfl rfl (one_of HT_.out (by kernel_rfl)) (by decide) (fun Kq_ hK_ => ?_)
  refine skip_ (w1 := ?_) (by rfl) rfl ?_ ?_
  rotate_left
  · go_simp
    first | done | rfl
  refine hK_.out _ _ trivial (fun hHeld => ?_)
  clear hK_ Kq_
  refine done_ (done_of HT_.out (by kernel_rfl)) ?_
  clear HT_ hHeld
  go_upto_region 21 with (fail)
  obtain ⟨V18, hV18⟩ : ∃ W, W = ((W1.setCell ⟨g5, 1, none⟩ (.int .u64 (gv b 1 2))).setCell ⟨g5, 2, none⟩ (.int .i64 (gv b 3 4))).drew := ⟨_, rfl⟩
  rw [← hV18]
  replace HD := Aside0.mk (show RS w V18 g5 ⟨gv b 0 1, gv b 1 2, gv b 3 4, 0, 0, 0, 0, 0, 0, 0, []⟩ none 0 by rw [hV18]; exact RS.drew_ ((HD0.out.set_ 1 (.int .u64 (gv b 1 2)) (x' := ⟨gv b 0 1, gv b 1 2, 0, 0, 0, 0, 0, 0, 0, 0, []⟩) (A' := none) (c' := 0) rfl).set_ 2 (.int .i64 (gv b 3 4)) (x' := ⟨gv b 0 1, gv b 1 2, gv b 3 4, 0, 0, 0, 0, 0, 0, 0, []⟩) (A' := none) (c' := 0) rfl))
  clear hV18 c0 c1 c2 c3 c4 c5 c6 c7 c8 c9 c10 z1 z2
  have hx5 := HD.out.cell
  obtain ⟨c0, c1, c2, c3, c4, c5, c6, c7, c8, c9⟩ := cel_at (x := ⟨gv b 0 1, gv b 1 2, gv b 3 4, 0, 0, 0, 0, 0, 0, 0, []⟩) (A := none) (c := 0) hx5
  have c10 : V18.cell? ⟨g5, 10, none⟩ = some (.slice none 0 0) := blk_cell hx5 10
  (try simp only at c0 c1 c2 c3 c4 c5 c6 c7 c8 c9)
  have z3 := blk_frozen hx5 3
  have z4 := blk_frozen hx5 4
  have z5 := blk_frozen hx5 5
  clear hx5
  go_wp2_with (fail)
  have HD0 := HD
  refine start_ (n := 15) (S := fun w' => w'.cell? ⟨ad.block, ad.off + 7, none⟩ = some (.int .u8 (gv b 7 1)) ∧ w'.cell? ⟨ad.block, ad.off + 8, none⟩ = some (.int .u8 (gv b 8 1))) (ds := []) #[false, false, false, false, false, false, false, false, false, false, false, false, false, false, false] (by kernel_rfl) rfl rfl ⟨pw_cell_below (below_drew HD.out.bel) HB7.out, pw_cell_below (below_drew HD.out.bel) HB8.out⟩ (fun hHeld => ?_); refine with_tab tabX21_ok (fun HT_ => ?_)
  have hb : Below V18.heap.size V18 V18.drew := below_drew (Below.refl _ _)
  replace HD := Aside0.mk (HD.out.below hb)
  clear hb
  refine pure_ (i := 0) (N := some 66) (v := ?_) (a' := ?_) #[true, false, false, false, false, false, false, false, false, false, false, false, false, false, false] rfl rfl (any_of HT_.out (by kernel_rfl)) (fun _ _ _ h => h) (Or.inl ⟨by rfl, ?_⟩) ?_ ?_
  rotate_left
  · intro w'
    go_simp
    with_reducible rfl
  rotate_left
  · simp only [Act.put, List.setIfInBounds_toArray, List.set_cons_zero, List.set_cons_succ]
    rfl
  refine pure_ (i := 1) (N := some 67) (v := ?_) (a' := ?_) #[true, true, false, false, false, false, false, false, false, false, false, false, false, false, false] rfl rfl (any_of HT_.out (by kernel_rfl)) (fun _ _ _ h => h) (Or.inl ⟨by rfl, ?_⟩) ?_ ?_
  rotate_left
  · intro w'
    go_simp
    with_reducible rfl
  rotate_left
  · simp only [Act.put, List.setIfInBounds_toArray, List.set_cons_zero, List.set_cons_succ]
    rfl
  refine take_ (i := 2) (N := some 68) (v := ?_) (a' := ?_) #[true, true, true, false, false, false, false, false, false, false, false, false, false, false, false] rfl rfl (take_of HT_.out (by kernel_rfl)) (fun _ _ _ h => h) (Or.inl ⟨by rfl, ?_⟩) hHeld ?_ ?_
  rotate_left
  · intro w' hw'
    obtain ⟨s0, s1⟩ := hw'
    go_simp
    with_reducible rfl
  rotate_left
  · simp only [Act.put, List.setIfInBounds_toArray, List.set_cons_zero, List.set_cons_succ]
    rfl
  refine pure_ (i := 3) (N := some 69) (v := ?_) (a' := ?_) #[true, true, true, true, false, false, false, false, false, false, false, false, false, false, false] rfl rfl (any_of HT_.out (by kernel_rfl)) (fun _ _ _ h => h) (Or.inl ⟨by rfl, ?_⟩) ?_ ?_
  rotate_left
  · intro w'
    go_simp
    with_reducible rfl
  rotate_left
  · simp only [Act.put, List.setIfInBounds_toArray, List.set_cons_zero, List.set_cons_succ]
    rfl
  refine pure_ (i := 4) (N := some 70) (v := ?_) (a' := ?_) #[true, true, true, true, true, false, false, false, false, false, false, false, false, false, false] rfl rfl (any_of HT_.out (by kernel_rfl)) (fun _ _ _ h => h) (Or.inl ⟨by rfl, ?_⟩) ?_ ?_
  rotate_left
  · intro w'
    go_simp
    with_reducible rfl
  rotate_left
  · simp only [Act.put, List.setIfInBounds_toArray, List.set_cons_zero, List.set_cons_succ]
    rfl
  refine pure_ (i := 5) (N := some 71) (v := ?_) (a' := ?_) #[true, true, true, true, true, true, false, false, false, false, false, false, false, false, false] rfl rfl (any_of HT_.out (by kernel_rfl)) (fun _ _ _ h => h) (Or.inl ⟨by rfl, ?_⟩) ?_ ?_
  rotate_left
  · intro w'
    go_simp
    with_reducible rfl
  rotate_left
  · simp only [Act.put, List.setIfInBounds_toArray, List.set_cons_zero, List.set_cons_succ]
    rfl
  refine take_ (i := 6) (N := some 72) (v := ?_) (a' := ?_) #[true, true, true, true, true, true, true, false, false, false, false, false, false, false, false] rfl rfl (take_of HT_.out (by kernel_rfl)) (fun _ _ _ h => h) (Or.inl ⟨by rfl, ?_⟩) hHeld ?_ ?_
  rotate_left
  · intro w' hw'
    obtain ⟨s0, s1⟩ := hw'
    go_simp
    with_reducible rfl
  rotate_left
  · simp only [Act.put, List.setIfInBounds_toArray, List.set_cons_zero, List.set_cons_succ]
    rfl
  refine pure_ (i := 7) (N := some 73) (v := ?_) (a' := ?_) #[true, true, true, true, true, true, true, true, false, false, false, false, false, false, false] rfl rfl (any_of HT_.out (by kernel_rfl)) (fun _ _ _ h => h) (Or.inl ⟨by rfl, ?_⟩) ?_ ?_
  rotate_left
  · intro w'
    go_simp
    with_reducible rfl
  rotate_left
  · simp only [Act.put, List.setIfInBounds_toArray, List.set_cons_zero, List.set_cons_succ]
    rfl
  refine pure_ (i := 8) (N := some 74) (v := ?_) (a' := ?_) #[true, true, true, true, true, true, true, true, true, false, false, false, false, false, false] rfl rfl (any_of HT_.out (by kernel_rfl)) (fun _ _ _ h => h) (Or.inl ⟨by rfl, ?_⟩) ?_ ?_
  rotate_left
  · intro w'
    go_simp
    with_reducible rfl
  rotate_left
  · simp only [Act.put, List.setIfInBounds_toArray, List.set_cons_zero, List.set_cons_succ]
    rfl
  refine pure_ (i := 9) (N := some 75) (v := ?_) (a' := ?_) #[true, true, true, true, true, true, true, true, true, true, false, false, false, false, false] rfl rfl (any_of HT_.out (by kernel_rfl)) (fun _ _ _ h => h) (Or.inl ⟨by rfl, ?_⟩) ?_ ?_
  rotate_left
  · intro w'
    go_simp
    with_reducible rfl
  rotate_left
  · simp only [Act.put, List.setIfInBounds_toArray, List.set_cons_zero, List.set_cons_succ]
    rfl
  refine one_ (i := 10) (N := some 76) #[true, true, true, true, true, true, true, true, true, true, true, false, false, false, false] rfl rfl (one_of HT_.out (by kernel_rfl)) (by decide) (fun Kq_ hK_ => ?_)
  refine goes_ Try.func42 (by kernel_rfl) rfl #[.slice B9 2 (c - 9)] (by rfl) rfl rfl (by (try simp only [List.map_toArray, List.map_cons, List.map_nil]); first | done | rfl) ?_
  with_reducible refine (refget_any B9 2 (c - 9) _ _ (Kd.C_below R9.out HD.out.bel) ((HY.out.drop _).take _) (by decide)).mono ?_
  rintro e w' ⟨rfl, rfl⟩
  refine ⟨_, rfl, ?_⟩
  rw [GV9.out]
  refine hK_.out _ _ ⟨pw_cell_below HD.out.bel HB7.out, pw_cell_below HD.out.bel HB8.out⟩ (fun hHeld => ?_)
  clear hK_ Kq_
  refine norm_ (a' := ?_) ?_ ?_
  rotate_left
  · show Act.put _ (some 76) _ = _
    simp only [Act.put, List.setIfInBounds_toArray, List.set_cons_zero, List.set_cons_succ]
    rfl
  refine pure_ (i := 11) (N := some 77) (v := ?_) (a' := ?_) #[true, true, true, true, true, true, true, true, true, true, true, true, false, false, false] rfl rfl (any_of HT_.out (by kernel_rfl)) (fun _ _ _ h => h) (Or.inl ⟨by rfl, ?_⟩) ?_ ?_
  rotate_left
  · intro w'
    go_simp
    with_reducible rfl
  rotate_left
  · simp only [Act.put, List.setIfInBounds_toArray, List.set_cons_zero, List.set_cons_succ]
    rfl
  refine pure_ (i := 12) (N := some 78) (v := ?_) (a' := ?_) #[true, true, true, true, true, true, true, true, true, true, true, true, true, false, false] rfl rfl (any_of HT_.out (by kernel_rfl)) (fun _ _ _ h => h) (Or.inl ⟨by rfl, ?_⟩) ?_ ?_
  rotate_left
  · intro w'
    go_simp
    with_reducible rfl
  rotate_left
  · simp only [Act.put, List.setIfInBounds_toArray, List.set_cons_zero, List.set_cons_succ]
    rfl
  refine pure_ (i := 13) (N := some 79) (v := ?_) (a' := ?_) #[true, true, true, true, true, true, true, true, true, true, true, true, true, true, false] rfl rfl (any_of HT_.out (by kernel_rfl)) (fun _ _ _ h => h) (Or.inl ⟨by rfl, ?_⟩) ?_ ?_
  rotate_left
  · intro w'
    go_simp
    with_reducible rfl
  rotate_left
  · simp only [Act.put, List.setIfInBounds_toArray, List.set_cons_zero, List.set_cons_succ]
    rfl
  refine one_ (i := 14) (N := none) #[true, true, true, true, true, true, true, true, true, true, true, true, true, true, true] rfl rfl (one_of HT_.out (by kernel_rfl)) (by decide) (fun Kq_ hK_ => ?_)
  refine skip_ (w1 := ?_) (by rfl) rfl ?_ ?_
  rotate_left
  · go_simp
    first | done | rfl
  refine hK_.out _ _ ⟨pw_cell_below (store3 HD0.out) HB7.out, pw_cell_below (store3 HD0.out) HB8.out⟩ (fun hHeld => ?_)
  clear hK_ Kq_
  refine done_ (done_of HT_.out (by kernel_rfl)) ?_
  clear HT_ hHeld
  go_upto_region 36 with (fail)
  obtain ⟨V21, hV21⟩ : ∃ W, W = (((V18.setCell ⟨g5, 3, none⟩ (.int .i64 (gv b 7 1))).setCell ⟨g5, 4, none⟩ (.int .i64 (gv b 8 1))).setCell ⟨g5, 5, none⟩ (.int .i64 (gv b 9 2))).drew := ⟨_, rfl⟩
  rw [← hV21]
  replace HD := Aside0.mk (show RS w V21 g5 ⟨gv b 0 1, gv b 1 2, gv b 3 4, gv b 7 1, gv b 8 1, gv b 9 2, 0, 0, 0, 0, []⟩ none 0 by rw [hV21]; exact RS.drew_ (((HD0.out.set_ 3 (.int .i64 (gv b 7 1)) (x' := ⟨gv b 0 1, gv b 1 2, gv b 3 4, gv b 7 1, 0, 0, 0, 0, 0, 0, []⟩) (A' := none) (c' := 0) rfl).set_ 4 (.int .i64 (gv b 8 1)) (x' := ⟨gv b 0 1, gv b 1 2, gv b 3 4, gv b 7 1, gv b 8 1, 0, 0, 0, 0, 0, []⟩) (A' := none) (c' := 0) rfl).set_ 5 (.int .i64 (gv b 9 2)) (x' := ⟨gv b 0 1, gv b 1 2, gv b 3 4, gv b 7 1, gv b 8 1, gv b 9 2, 0, 0, 0, 0, []⟩) (A' := none) (c' := 0) rfl))
  clear hV21 c0 c1 c2 c3 c4 c5 c6 c7 c8 c9 c10 z3 z4 z5
  have HL2 := HLEN
  replace HD := Aside0.mk (show RS w V21 g5 x9 none 0 by rw [hx9.out]; exact HD.out)
  have HRX := Aside0.mk (show RdN v none x9.body.length x9.body by rw [hx9.out]; exact RdB_nil _)
  have hx5 := HD.out.cell
  obtain ⟨c0, c1, c2, c3, c4, c5, c6, c7, c8, c9⟩ := cel_at (x := x9) (A := none) (c := 0) hx5
  have c10 : V21.cell? ⟨g5, 10, none⟩ = some (.slice none x9.body.length 0) := blk_cell hx5 10
  (try simp only at c0 c1 c2 c3 c4 c5 c6 c7 c8 c9)
  clear hx5
  have hxr := HD.out.res
  have t0 : V21.cell? ⟨w.heap.size, 0, none⟩ = some (.int .i64 0) := blk_cell hxr 0
  have t1 : V21.cell? ⟨w.heap.size, 1, none⟩ = some (.int .u64 0) := blk_cell hxr 1
  have t2 : V21.cell? ⟨w.heap.size, 2, none⟩ = some (.int .i64 0) := blk_cell hxr 2
  have t3 : V21.cell? ⟨w.heap.size, 3, none⟩ = some (.int .i64 0) := blk_cell hxr 3
  have t4 : V21.cell? ⟨w.heap.size, 4, none⟩ = some (.int .i64 0) := blk_cell hxr 4
  have t5 : V21.cell? ⟨w.heap.size, 5, none⟩ = some (.int .i64 0) := blk_cell hxr 5
  have t6 : V21.cell? ⟨w.heap.size, 6, none⟩ = some (.int .u64 0) := blk_cell hxr 6
  have t7 : V21.cell? ⟨w.heap.size, 7, none⟩ = some (.int .i64 0) := blk_cell hxr 7
  have t8 : V21.cell? ⟨w.heap.size, 8, none⟩ = some (.int .i64 0) := blk_cell hxr 8
  have t9 : V21.cell? ⟨w.heap.size, 9, none⟩ = some (.int .i64 0) := blk_cell hxr 9
  have t10 : V21.cell? ⟨w.heap.size, 10, none⟩ = some (.slice none 0 0) := blk_cell hxr 10
  have zt0 := blk_frozen hxr 0
  have zt1 := blk_frozen hxr 1
  have zt2 := blk_frozen hxr 2
  have zt3 := blk_frozen hxr 3
  have zt4 := blk_frozen hxr 4
  have zt5 := blk_frozen hxr 5
  have zt6 := blk_frozen hxr 6
  have zt7 := blk_frozen hxr 7
  have zt8 := blk_frozen hxr 8
  have zt9 := blk_frozen hxr 9
  have zt10 := blk_frozen hxr 10
  clear hxr
  cases hq : rightB x9 with
  | false =>
    have HE := Aside0.mk (show res = (cel0, 0, 3) by rw [hres.out, if_neg HL2.out, if_neg (by rw [hq]; simp)])
    go_wp2_with (go_at_call 10; go_must (refine (refright_any x9 none 0 _ (Kd.C_below (Kd.C_below HRX.out HVW.out) HD.out.bel) hwf.out.2.2).mono ?_; rintro e y9 ⟨rfl, hb⟩; rw [hq]; replace HD := Aside0.mk (HD.out.below hb); clear c0 c1 c2 c3 c4 c5 c6 c7 c8 c9 c10 t0 zt0 t1 zt1 t2 zt2 t3 zt3 t4 zt4 t5 zt5 t6 zt6 t7 zt7 t8 zt8 t9 zt9 t10 zt10; have hx5 := HD.out.cell; obtain ⟨c0, c1, c2, c3, c4, c5, c6, c7, c8, c9⟩ := cel_at (x := x9) (A := none) (c := 0) hx5; have c10 : y9.cell? ⟨g5, 10, none⟩ = some (.slice none x9.body.length 0) := blk_cell hx5 10; (try simp only at c0 c1 c2 c3 c4 c5 c6 c7 c8 c9); clear hx5; have hxr := HD.out.res; have t0 : y9.cell? ⟨w.heap.size, 0, none⟩ = some (.int .i64 0) := blk_cell hxr 0; have t1 : y9.cell? ⟨w.heap.size, 1, none⟩ = some (.int .u64 0) := blk_cell hxr 1; have t2 : y9.cell? ⟨w.heap.size, 2, none⟩ = some (.int .i64 0) := blk_cell hxr 2; have t3 : y9.cell? ⟨w.heap.size, 3, none⟩ = some (.int .i64 0) := blk_cell hxr 3; have t4 : y9.cell? ⟨w.heap.size, 4, none⟩ = some (.int .i64 0) := blk_cell hxr 4; have t5 : y9.cell? ⟨w.heap.size, 5, none⟩ = some (.int .i64 0) := blk_cell hxr 5; have t6 : y9.cell? ⟨w.heap.size, 6, none⟩ = some (.int .u64 0) := blk_cell hxr 6; have t7 : y9.cell? ⟨w.heap.size, 7, none⟩ = some (.int .i64 0) := blk_cell hxr 7; have t8 : y9.cell? ⟨w.heap.size, 8, none⟩ = some (.int .i64 0) := blk_cell hxr 8; have t9 : y9.cell? ⟨w.heap.size, 9, none⟩ = some (.int .i64 0) := blk_cell hxr 9; have t10 : y9.cell? ⟨w.heap.size, 10, none⟩ = some (.slice none 0 0) := blk_cell hxr 10; have zt0 := blk_frozen hxr 0; have zt1 := blk_frozen hxr 1; have zt2 := blk_frozen hxr 2; have zt3 := blk_frozen hxr 3; have zt4 := blk_frozen hxr 4; have zt5 := blk_frozen hxr 5; have zt6 := blk_frozen hxr 6; have zt7 := blk_frozen hxr 7; have zt8 := blk_frozen hxr 8; have zt9 := blk_frozen hxr 9; have zt10 := blk_frozen hxr 10; clear hxr; clear hb))
    obtain ⟨W9, hW9⟩ : ∃ W9, W9 = (((((((((((y9.setCell ⟨w.heap.size, 0, none⟩ (.int .i64 0)).setCell ⟨w.heap.size, 1, none⟩ (.int .u64 0)).setCell ⟨w.heap.size, 2, none⟩ (.int .i64 0)).setCell ⟨w.heap.size, 3, none⟩ (.int .i64 0)).setCell ⟨w.heap.size, 4, none⟩ (.int .i64 0)).setCell ⟨w.heap.size, 5, none⟩ (.int .i64 0)).setCell ⟨w.heap.size, 6, none⟩ (.int .u64 0)).setCell ⟨w.heap.size, 7, none⟩ (.int .i64 0)).setCell ⟨w.heap.size, 8, none⟩ (.int .i64 0)).setCell ⟨w.heap.size, 9, none⟩ (.int .i64 0)).setCell ⟨w.heap.size, 10, none⟩ (.slice none 0 0)) := ⟨_, rfl⟩
    rw [← hW9]
    have hr9 : W9.heap[w.heap.size]? = some (.cells (celA cel0 none 0) 30 (0, 0)) := by rw [hW9]; exact putCell_at (x := cel0) (A := none) (c := 0) HD.out.res
    have hb9 : Below w.heap.size w W9 := by rw [hW9]; exact putCell_below (x := cel0) (A := none) (c := 0) HD.out.bel (Nat.le_refl _)
    clear hW9 t0 t1 t2 t3 t4 t5 t6 t7 t8 t9 t10
    have t0 : W9.cell? ⟨w.heap.size, 0, none⟩ = some (.int .i64 0) := blk_cell hr9 0
    have t1 : W9.cell? ⟨w.heap.size, 1, none⟩ = some (.int .u64 0) := blk_cell hr9 1
    have t2 : W9.cell? ⟨w.heap.size, 2, none⟩ = some (.int .i64 0) := blk_cell hr9 2
    have t3 : W9.cell? ⟨w.heap.size, 3, none⟩ = some (.int .i64 0) := blk_cell hr9 3
    have t4 : W9.cell? ⟨w.heap.size, 4, none⟩ = some (.int .i64 0) := blk_cell hr9 4
    have t5 : W9.cell? ⟨w.heap.size, 5, none⟩ = some (.int .i64 0) := blk_cell hr9 5
    have t6 : W9.cell? ⟨w.heap.size, 6, none⟩ = some (.int .u64 0) := blk_cell hr9 6
    have t7 : W9.cell? ⟨w.heap.size, 7, none⟩ = some (.int .i64 0) := blk_cell hr9 7
    have t8 : W9.cell? ⟨w.heap.size, 8, none⟩ = some (.int .i64 0) := blk_cell hr9 8
    have t9 : W9.cell? ⟨w.heap.size, 9, none⟩ = some (.int .i64 0) := blk_cell hr9 9
    have t10 : W9.cell? ⟨w.heap.size, 10, none⟩ = some (.slice none 0 0) := blk_cell hr9 10
    refine bodyPost_ret (v := .tuple #[.agg (celA cel0 none 0), .int .i64 0, .int .i64 3]) (by simp [results, Try.results28, go_sem, cel0, t0, t1, t2, t3, t4, t5, t6, t7, t8, t9, t10]) rfl ?_
    rw [HE.out]
    exact ⟨⟨none, 0, rfl, RdB_nil _⟩, hb9⟩
  | true =>
    have HE := Aside0.mk (show res = (x9, ((11 : Nat) : Int), 0) by rw [hres.out, if_neg HL2.out, if_pos hq])
    go_wp2_with (go_at_call 10; go_must (refine (refright_any x9 none 0 _ (Kd.C_below (Kd.C_below HRX.out HVW.out) HD.out.bel) hwf.out.2.2).mono ?_; rintro e y9 ⟨rfl, hb⟩; rw [hq]; replace HD := Aside0.mk (HD.out.below hb); clear c0 c1 c2 c3 c4 c5 c6 c7 c8 c9 c10 t0 zt0 t1 zt1 t2 zt2 t3 zt3 t4 zt4 t5 zt5 t6 zt6 t7 zt7 t8 zt8 t9 zt9 t10 zt10; have hx5 := HD.out.cell; obtain ⟨c0, c1, c2, c3, c4, c5, c6, c7, c8, c9⟩ := cel_at (x := x9) (A := none) (c := 0) hx5; have c10 : y9.cell? ⟨g5, 10, none⟩ = some (.slice none x9.body.length 0) := blk_cell hx5 10; (try simp only at c0 c1 c2 c3 c4 c5 c6 c7 c8 c9); clear hx5; have hxr := HD.out.res; have t0 : y9.cell? ⟨w.heap.size, 0, none⟩ = some (.int .i64 0) := blk_cell hxr 0; have t1 : y9.cell? ⟨w.heap.size, 1, none⟩ = some (.int .u64 0) := blk_cell hxr 1; have t2 : y9.cell? ⟨w.heap.size, 2, none⟩ = some (.int .i64 0) := blk_cell hxr 2; have t3 : y9.cell? ⟨w.heap.size, 3, none⟩ = some (.int .i64 0) := blk_cell hxr 3; have t4 : y9.cell? ⟨w.heap.size, 4, none⟩ = some (.int .i64 0) := blk_cell hxr 4; have t5 : y9.cell? ⟨w.heap.size, 5, none⟩ = some (.int .i64 0) := blk_cell hxr 5; have t6 : y9.cell? ⟨w.heap.size, 6, none⟩ = some (.int .u64 0) := blk_cell hxr 6; have t7 : y9.cell? ⟨w.heap.size, 7, none⟩ = some (.int .i64 0) := blk_cell hxr 7; have t8 : y9.cell? ⟨w.heap.size, 8, none⟩ = some (.int .i64 0) := blk_cell hxr 8; have t9 : y9.cell? ⟨w.heap.size, 9, none⟩ = some (.int .i64 0) := blk_cell hxr 9; have t10 : y9.cell? ⟨w.heap.size, 10, none⟩ = some (.slice none 0 0) := blk_cell hxr 10; have zt0 := blk_frozen hxr 0; have zt1 := blk_frozen hxr 1; have zt2 := blk_frozen hxr 2; have zt3 := blk_frozen hxr 3; have zt4 := blk_frozen hxr 4; have zt5 := blk_frozen hxr 5; have zt6 := blk_frozen hxr 6; have zt7 := blk_frozen hxr 7; have zt8 := blk_frozen hxr 8; have zt9 := blk_frozen hxr 9; have zt10 := blk_frozen hxr 10; clear hxr; clear hb))
    obtain ⟨W9, hW9⟩ : ∃ W9, W9 = (((((((((((y9.setCell ⟨w.heap.size, 0, none⟩ (.int .i64 x9.kind)).setCell ⟨w.heap.size, 1, none⟩ (.int .u64 x9.num)).setCell ⟨w.heap.size, 2, none⟩ (.int .i64 x9.min)).setCell ⟨w.heap.size, 3, none⟩ (.int .i64 x9.br)).setCell ⟨w.heap.size, 4, none⟩ (.int .i64 x9.vol)).setCell ⟨w.heap.size, 5, none⟩ (.int .i64 x9.blk)).setCell ⟨w.heap.size, 6, none⟩ (.int .u64 x9.ref)).setCell ⟨w.heap.size, 7, none⟩ (.int .i64 x9.fr)).setCell ⟨w.heap.size, 8, none⟩ (.int .i64 x9.to)).setCell ⟨w.heap.size, 9, none⟩ (.int .i64 x9.un)).setCell ⟨w.heap.size, 10, none⟩ (.slice none x9.body.length 0)) := ⟨_, rfl⟩
    rw [← hW9]
    have hr9 : W9.heap[w.heap.size]? = some (.cells (celA x9 none 0) 30 (0, 0)) := by rw [hW9]; exact putCell_at (x := x9) (A := none) (c := 0) HD.out.res
    have hb9 : Below w.heap.size w W9 := by rw [hW9]; exact putCell_below (x := x9) (A := none) (c := 0) HD.out.bel (Nat.le_refl _)
    clear hW9 t0 t1 t2 t3 t4 t5 t6 t7 t8 t9 t10
    have t0 : W9.cell? ⟨w.heap.size, 0, none⟩ = some (.int .i64 x9.kind) := blk_cell hr9 0
    have t1 : W9.cell? ⟨w.heap.size, 1, none⟩ = some (.int .u64 x9.num) := blk_cell hr9 1
    have t2 : W9.cell? ⟨w.heap.size, 2, none⟩ = some (.int .i64 x9.min) := blk_cell hr9 2
    have t3 : W9.cell? ⟨w.heap.size, 3, none⟩ = some (.int .i64 x9.br) := blk_cell hr9 3
    have t4 : W9.cell? ⟨w.heap.size, 4, none⟩ = some (.int .i64 x9.vol) := blk_cell hr9 4
    have t5 : W9.cell? ⟨w.heap.size, 5, none⟩ = some (.int .i64 x9.blk) := blk_cell hr9 5
    have t6 : W9.cell? ⟨w.heap.size, 6, none⟩ = some (.int .u64 x9.ref) := blk_cell hr9 6
    have t7 : W9.cell? ⟨w.heap.size, 7, none⟩ = some (.int .i64 x9.fr) := blk_cell hr9 7
    have t8 : W9.cell? ⟨w.heap.size, 8, none⟩ = some (.int .i64 x9.to) := blk_cell hr9 8
    have t9 : W9.cell? ⟨w.heap.size, 9, none⟩ = some (.int .i64 x9.un) := blk_cell hr9 9
    have t10 : W9.cell? ⟨w.heap.size, 10, none⟩ = some (.slice none x9.body.length 0) := blk_cell hr9 10
    refine bodyPost_ret (v := .tuple #[.agg (celA x9 none 0), .int .i64 ((11 : Nat) : Int), .int .i64 0]) (by simp [results, Try.results28, go_sem, t0, t1, t2, t3, t4, t5, t6, t7, t8, t9, t10]) rfl ?_
    rw [HE.out]
    exact ⟨⟨none, 0, rfl, HRX.out⟩, hb9⟩
set_option maxHeartbeats 6400000 in
set_option maxRecDepth 100000 in
theorem refdec_rm (A : Option Addr) (c : Nat) (b : List Int) (v w : World) (hv : Below v.heap.size v w) (hr : RdB v A b) (hc : b.length ≤ c) (hy : Byt b) (hl1000 : b.length ≤ 1000) (h00 : b.length ≠ 0) (hP : Aside0 (hasPlace (gv b 0 1) = false ∧ hasRef (gv b 0 1) = true ∧ hasMin (gv b 0 1) = true ∧ hasBody (gv b 0 1) = false)) (hk1 : decide (gv b 0 1 < 1) = false) (hk8 : decide (8 < gv b 0 1) = false) (nb : Nat) (hnb : Aside0 (nb = 0))
    (x9 : Cel) (hx9 : Aside0 (x9 = ⟨gv b 0 1, gv b 1 2, gv b 3 4, 0, 0, 0, gv b 7 2, gv b 9 4, gv b 13 4, gv b 17 4, []⟩)) (hwf : Aside0 (CelWf x9)) (res : Cel × Int × Int)
    (hres : Aside0 (res = if b.length < 21 then (cel0, 0, 14) else if rightB x9 then (x9, ((21 : Nat) : Int), 0) else (cel0, 0, 3))) :
    Calls Try.prog 28 #[.slice A b.length c] w fun e w' => RDecdV v w w' e res := by
  have hmx := C_max hr
  have HVW := Aside0.mk hv
  have HRV := Aside0.mk hr
  replace hr := Kd.C_below hr hv
  have HR := Aside0.mk hr
  have HY := Aside0.mk hy
  have HC := Aside0.mk hc
  obtain ⟨ad, rfl, h0⟩ := cell_in hr 0 (by omega)
  rw [add_0] at h0
  have hg0 := gv_range hy 0 1
  have e0 : IntKind.i64.wrap (gv b 0 1) = gv b 0 1 := IntWalk.i64_in _ (by omega)
  clear hr hy hc hg0 hv
  have hb0 : (b.length : Int) ≠ 0 := by omega
  have fb0 : ((b.length : Int) == 0) = false := beq_eq_false_iff_ne.2 hb0
  have hbi : (0 : Int) < (b.length : Int) := by omega
  go_enter Try.func28, Try.ntmps28
  go_upto_region 3 with (fail)
  obtain ⟨W0, hW0⟩ : ∃ W0, W0 = w.alloc (.cells #[.int .i64 0, .int .u64 0, .int .i64 0, .int .i64 0, .int .i64 0, .int .i64 0, .int .u64 0, .int .i64 0, .int .i64 0, .int .i64 0, .slice none 0 0] 30) := ⟨_, rfl⟩
  rw [← hW0]
  have hb1 : Below w.heap.size w W0 := by rw [hW0]; exact below_alloc (Below.refl _ _) _
  have hres0 : W0.heap[w.heap.size]? = some (.cells (celA cel0 none 0) 30 (0, 0)) := by rw [hW0]; exact blk_new _ _
  have h0' := pw_cell_below hb1 h0
  have hsz : W0.heap.size = w.heap.size + 1 := by rw [hW0]; simp
  have HS0 := Aside0.mk (And.intro hb1 (And.intro hres0 hsz))
  clear hW0 hb1 hres0 h0 hsz
  by_cases hlt : b.length < 21
  · have HE := Aside0.mk (show res = (cel0, 0, 14) by rw [hres.out, if_pos (by omega)])
    go_upto_region 17 with (go_at_call 38; go_must (refine (refhas_any (gv b 0 1) _).mono ?_; rintro e w3 ⟨rfl, rfl⟩; rw [hP.out.1, hP.out.2.1, hP.out.2.2.1, hP.out.2.2.2]))
    obtain ⟨W1, hW1⟩ : ∃ W1, W1 = W0.alloc (.cells #[.int .i64 (gv b 0 1), .int .u64 0, .int .i64 0, .int .i64 0, .int .i64 0, .int .i64 0, .int .u64 0, .int .i64 0, .int .i64 0, .int .i64 0, .slice none 0 0] 30) := ⟨_, rfl⟩
    rw [← hW1]
    have HD := Aside0.mk (show RS w W1 W0.heap.size ⟨gv b 0 1, 0, 0, 0, 0, 0, 0, 0, 0, 0, []⟩ none 0 from { cell := (by rw [hW1]; exact blk_new _ _), res := (by rw [hW1]; exact blk_alloc HS0.out.2.1 _), bel := (by rw [hW1]; exact HS0.out.1.alloc (by rw [HS0.out.2.2]; omega) _), ord := (by rw [HS0.out.2.2]; omega) })
    obtain ⟨g5, hg5⟩ : ∃ g, g = W0.heap.size := ⟨_, rfl⟩
    rw [← hg5] at HD ⊢
    clear hW1 hg5 h0'
    have hxr := HD.out.res
    have t0 : W1.cell? ⟨w.heap.size, 0, none⟩ = some (.int .i64 0) := blk_cell hxr 0
    have t1 : W1.cell? ⟨w.heap.size, 1, none⟩ = some (.int .u64 0) := blk_cell hxr 1
    have t2 : W1.cell? ⟨w.heap.size, 2, none⟩ = some (.int .i64 0) := blk_cell hxr 2
    have t3 : W1.cell? ⟨w.heap.size, 3, none⟩ = some (.int .i64 0) := blk_cell hxr 3
    have t4 : W1.cell? ⟨w.heap.size, 4, none⟩ = some (.int .i64 0) := blk_cell hxr 4
    have t5 : W1.cell? ⟨w.heap.size, 5, none⟩ = some (.int .i64 0) := blk_cell hxr 5
    have t6 : W1.cell? ⟨w.heap.size, 6, none⟩ = some (.int .u64 0) := blk_cell hxr 6
    have t7 : W1.cell? ⟨w.heap.size, 7, none⟩ = some (.int .i64 0) := blk_cell hxr 7
    have t8 : W1.cell? ⟨w.heap.size, 8, none⟩ = some (.int .i64 0) := blk_cell hxr 8
    have t9 : W1.cell? ⟨w.heap.size, 9, none⟩ = some (.int .i64 0) := blk_cell hxr 9
    have t10 : W1.cell? ⟨w.heap.size, 10, none⟩ = some (.slice none 0 0) := blk_cell hxr 10
    have zt0 := blk_frozen hxr 0
    have zt1 := blk_frozen hxr 1
    have zt2 := blk_frozen hxr 2
    have zt3 := blk_frozen hxr 3
    have zt4 := blk_frozen hxr 4
    have zt5 := blk_frozen hxr 5
    have zt6 := blk_frozen hxr 6
    have zt7 := blk_frozen hxr 7
    have zt8 := blk_frozen hxr 8
    have zt9 := blk_frozen hxr 9
    have zt10 := blk_frozen hxr 10
    clear hxr
    go_wp2
    obtain ⟨W9, hW9⟩ : ∃ W9, W9 = (((((((((((W1.setCell ⟨w.heap.size, 0, none⟩ (.int .i64 0)).setCell ⟨w.heap.size, 1, none⟩ (.int .u64 0)).setCell ⟨w.heap.size, 2, none⟩ (.int .i64 0)).setCell ⟨w.heap.size, 3, none⟩ (.int .i64 0)).setCell ⟨w.heap.size, 4, none⟩ (.int .i64 0)).setCell ⟨w.heap.size, 5, none⟩ (.int .i64 0)).setCell ⟨w.heap.size, 6, none⟩ (.int .u64 0)).setCell ⟨w.heap.size, 7, none⟩ (.int .i64 0)).setCell ⟨w.heap.size, 8, none⟩ (.int .i64 0)).setCell ⟨w.heap.size, 9, none⟩ (.int .i64 0)).setCell ⟨w.heap.size, 10, none⟩ (.slice none 0 0)) := ⟨_, rfl⟩
    rw [← hW9]
    have hr9 : W9.heap[w.heap.size]? = some (.cells (celA cel0 none 0) 30 (0, 0)) := by rw [hW9]; exact putCell_at (x := cel0) (A := none) (c := 0) HD.out.res
    have hb9 : Below w.heap.size w W9 := by rw [hW9]; exact putCell_below (x := cel0) (A := none) (c := 0) HD.out.bel (Nat.le_refl _)
    clear hW9 t0 t1 t2 t3 t4 t5 t6 t7 t8 t9 t10
    have t0 : W9.cell? ⟨w.heap.size, 0, none⟩ = some (.int .i64 0) := blk_cell hr9 0
    have t1 : W9.cell? ⟨w.heap.size, 1, none⟩ = some (.int .u64 0) := blk_cell hr9 1
    have t2 : W9.cell? ⟨w.heap.size, 2, none⟩ = some (.int .i64 0) := blk_cell hr9 2
    have t3 : W9.cell? ⟨w.heap.size, 3, none⟩ = some (.int .i64 0) := blk_cell hr9 3
    have t4 : W9.cell? ⟨w.heap.size, 4, none⟩ = some (.int .i64 0) := blk_cell hr9 4
    have t5 : W9.cell? ⟨w.heap.size, 5, none⟩ = some (.int .i64 0) := blk_cell hr9 5
    have t6 : W9.cell? ⟨w.heap.size, 6, none⟩ = some (.int .u64 0) := blk_cell hr9 6
    have t7 : W9.cell? ⟨w.heap.size, 7, none⟩ = some (.int .i64 0) := blk_cell hr9 7
    have t8 : W9.cell? ⟨w.heap.size, 8, none⟩ = some (.int .i64 0) := blk_cell hr9 8
    have t9 : W9.cell? ⟨w.heap.size, 9, none⟩ = some (.int .i64 0) := blk_cell hr9 9
    have t10 : W9.cell? ⟨w.heap.size, 10, none⟩ = some (.slice none 0 0) := blk_cell hr9 10
    refine bodyPost_ret (v := .tuple #[.agg (celA cel0 none 0), .int .i64 0, .int .i64 14]) (by simp [results, Try.results28, go_sem, cel0, t0, t1, t2, t3, t4, t5, t6, t7, t8, t9, t10]) rfl ?_
    rw [HE.out]
    exact ⟨⟨none, 0, rfl, RdB_nil _⟩, hb9⟩
  obtain ⟨B1, q1, r1⟩ := cutG HR.out HC.out 1 2 1 3 rfl rfl (by omega)
  have R1 := Aside0.mk r1
  have hg1 := gv_range HY.out 1 2
  have GV1 := Aside0.mk (gv_val (b := b) (m := 1) (n := 2) (by omega))
  clear r1 hg1
  obtain ⟨B3, q3, r3⟩ := cutG HR.out HC.out 3 4 3 7 rfl rfl (by omega)
  have R3 := Aside0.mk r3
  have hg3 := gv_range HY.out 3 4
  have GV3 := Aside0.mk (gv_val (b := b) (m := 3) (n := 4) (by omega))
  have i3 : IntKind.i64.wrap (gv b 3 4) = gv b 3 4 := IntWalk.i64_in _ (by omega)
  clear r3 hg3
  obtain ⟨B7, q7, r7⟩ := cutG HR.out HC.out 7 2 7 9 rfl rfl (by omega)
  have R7 := Aside0.mk r7
  have hg7 := gv_range HY.out 7 2
  have GV7 := Aside0.mk (gv_val (b := b) (m := 7) (n := 2) (by omega))
  clear r7 hg7
  obtain ⟨B9, q9, r9⟩ := cutG HR.out HC.out 9 4 9 13 rfl rfl (by omega)
  have R9 := Aside0.mk r9
  have hg9 := gv_range HY.out 9 4
  have GV9 := Aside0.mk (gv_val (b := b) (m := 9) (n := 4) (by omega))
  have i9 : IntKind.i64.wrap (gv b 9 4) = gv b 9 4 := IntWalk.i64_in _ (by omega)
  clear r9 hg9
  obtain ⟨B13, q13, r13⟩ := cutG HR.out HC.out 13 4 13 17 rfl rfl (by omega)
  have R13 := Aside0.mk r13
  have hg13 := gv_range HY.out 13 4
  have GV13 := Aside0.mk (gv_val (b := b) (m := 13) (n := 4) (by omega))
  have i13 : IntKind.i64.wrap (gv b 13 4) = gv b 13 4 := IntWalk.i64_in _ (by omega)
  clear r13 hg13
  obtain ⟨B17, q17, r17⟩ := cutG HR.out HC.out 17 4 17 21 rfl rfl (by omega)
  have R17 := Aside0.mk r17
  have hg17 := gv_range HY.out 17 4
  have GV17 := Aside0.mk (gv_val (b := b) (m := 17) (n := 4) (by omega))
  have i17 : IntKind.i64.wrap (gv b 17 4) = gv b 17 4 := IntWalk.i64_in _ (by omega)
  clear r17 hg17
  have HLEN := Aside0.mk hlt
  have hlt' : ¬ (b.length : Int) < 21 := by omega
  clear hlt
  go_upto_region 18 with (go_at_call 38; go_must (refine (refhas_any (gv b 0 1) _).mono ?_; rintro e w3 ⟨rfl, rfl⟩; rw [hP.out.1, hP.out.2.1, hP.out.2.2.1, hP.out.2.2.2]))
  obtain ⟨W1, hW1⟩ : ∃ W1, W1 = W0.alloc (.cells #[.int .i64 (gv b 0 1), .int .u64 0, .int .i64 0, .int .i64 0, .int .i64 0, .int .i64 0, .int .u64 0, .int .i64 0, .int .i64 0, .int .i64 0, .slice none 0 0] 30) := ⟨_, rfl⟩
  rw [← hW1]
  have HD := Aside0.mk (show RS w W1 W0.heap.size ⟨gv b 0 1, 0, 0, 0, 0, 0, 0, 0, 0, 0, []⟩ none 0 from { cell := (by rw [hW1]; exact blk_new _ _), res := (by rw [hW1]; exact blk_alloc HS0.out.2.1 _), bel := (by rw [hW1]; exact HS0.out.1.alloc (by rw [HS0.out.2.2]; omega) _), ord := (by rw [HS0.out.2.2]; omega) })
  obtain ⟨g5, hg5⟩ : ∃ g, g = W0.heap.size := ⟨_, rfl⟩
  rw [← hg5] at HD ⊢
  clear hW1 hg5 h0'
  have hx5 := HD.out.cell
  obtain ⟨c0, c1, c2, c3, c4, c5, c6, c7, c8, c9⟩ := cel_at (x := ⟨gv b 0 1, 0, 0, 0, 0, 0, 0, 0, 0, 0, []⟩) (A := none) (c := 0) hx5
  have c10 : W1.cell? ⟨g5, 10, none⟩ = some (.slice none 0 0) := blk_cell hx5 10
  (try simp only at c0 c1 c2 c3 c4 c5 c6 c7 c8 c9)
  have z1 := blk_frozen hx5 1
  have z2 := blk_frozen hx5 2
  clear hx5
  go_wp2_with (fail)
  have HD0 := HD
  refine start_ (n := 11) (S := fun w' => True) (ds := []) #[false, false, false, false, false, false, false, false, false, false, false] (by kernel_rfl) rfl rfl trivial (fun hHeld => ?_); refine with_tab tabX18_ok (fun HT_ => ?_)
  have hb : Below W1.heap.size W1 W1.drew := below_drew (Below.refl _ _)
  replace HD := Aside0.mk (HD.out.below hb)
  clear hb
  refine pure_ (i := 0) (N := some 56) (v := ?_) (a' := ?_) #[true, false, false, false, false, false, false, false, false, false, false] rfl rfl (any_of HT_.out (by kernel_rfl)) (fun _ _ _ h => h) (Or.inl ⟨by rfl, ?_⟩) ?_ ?_
  rotate_left
  · intro w'
    go_simp
    with_reducible rfl
  rotate_left
  · simp only [Act.put, List.setIfInBounds_toArray, List.set_cons_zero, List.set_cons_succ]
    rfl
  refine pure_ (i := 1) (N := some 57) (v := ?_) (a' := ?_) #[true, true, false, false, false, false, false, false, false, false, false] rfl rfl (any_of HT_.out (by kernel_rfl)) (fun _ _ _ h => h) (Or.inl ⟨by rfl, ?_⟩) ?_ ?_
  rotate_left
  · intro w'
    go_simp
    with_reducible rfl
  rotate_left
  · simp only [Act.put, List.setIfInBounds_toArray, List.set_cons_zero, List.set_cons_succ]
    rfl
  refine pure_ (i := 3) (N := some 59) (v := ?_) (a' := ?_) #[true, true, false, true, false, false, false, false, false, false, false] rfl rfl (any_of HT_.out (by kernel_rfl)) (fun _ _ _ h => h) (Or.inl ⟨by rfl, ?_⟩) ?_ ?_
  rotate_left
  · intro w'
    go_simp
    with_reducible rfl
  rotate_left
  · simp only [Act.put, List.setIfInBounds_toArray, List.set_cons_zero, List.set_cons_succ]
    rfl
  refine pure_ (i := 4) (N := some 60) (v := ?_) (a' := ?_) #[true, true, false, true, true, false, false, false, false, false, false] rfl rfl (any_of HT_.out (by kernel_rfl)) (fun _ _ _ h => h) (Or.inl ⟨by rfl, ?_⟩) ?_ ?_
  rotate_left
  · intro w'
    go_simp
    with_reducible rfl
  rotate_left
  · simp only [Act.put, List.setIfInBounds_toArray, List.set_cons_zero, List.set_cons_succ]
    rfl
  refine one_ (i := 2) (N := some 58) #[true, true, true, true, true, false, false, false, false, false, false] rfl rfl (one_of HT_.out (by kernel_rfl)) (by decide) (fun Kq_ hK_ => ?_)
  refine goes_ Try.func42 (by kernel_rfl) rfl #[.slice B1 2 (c - 1)] (by rfl) rfl rfl (by (try simp only [List.map_toArray, List.map_cons, List.map_nil]); first | done | rfl) ?_
  with_reducible refine (refget_any B1 2 (c - 1) _ _ (Kd.C_below R1.out HD.out.bel) ((HY.out.drop _).take _) (by decide)).mono ?_
  rintro e w' ⟨rfl, rfl⟩
  refine ⟨_, rfl, ?_⟩
  rw [GV1.out]
  refine hK_.out _ _ trivial (fun hHeld => ?_)
  clear hK_ Kq_
  refine norm_ (a' := ?_) ?_ ?_
  rotate_left
  · show Act.put _ (some 58) _ = _
    simp only [Act.put, List.setIfInBounds_toArray, List.set_cons_zero, List.set_cons_succ]
    rfl
  refine pure_ (i := 7) (N := some 63) (v := ?_) (a' := ?_) #[true, true, true, true, true, false, false, true, false, false, false] rfl rfl (any_of HT_.out (by kernel_rfl)) (fun _ _ _ h => h) (Or.inl ⟨by rfl, ?_⟩) ?_ ?_
  rotate_left
  · intro w'
    go_simp
    with_reducible rfl
  rotate_left
  · simp only [Act.put, List.setIfInBounds_toArray, List.set_cons_zero, List.set_cons_succ]
    rfl
  refine one_ (i := 5) (N := some 61) #[true, true, true, true, true, true, false, true, false, false, false] rfl rfl (one_of HT_.out (by kernel_rfl)) (by decide) (fun Kq_ hK_ => ?_)
  refine goes_ Try.func42 (by kernel_rfl) rfl #[.slice B3 4 (c - 3)] (by rfl) rfl rfl (by (try simp only [List.map_toArray, List.map_cons, List.map_nil]); first | done | rfl) ?_
  with_reducible refine (refget_any B3 4 (c - 3) _ _ (Kd.C_below R3.out HD.out.bel) ((HY.out.drop _).take _) (by decide)).mono ?_
  rintro e w' ⟨rfl, rfl⟩
  refine ⟨_, rfl, ?_⟩
  rw [GV3.out]
  refine hK_.out _ _ trivial (fun hHeld => ?_)
  clear hK_ Kq_
  refine norm_ (a' := ?_) ?_ ?_
  rotate_left
  · show Act.put _ (some 61) _ = _
    simp only [Act.put, List.setIfInBounds_toArray, List.set_cons_zero, List.set_cons_succ]
    rfl
  refine pure_ (i := 6) (N := some 62) (v := ?_) (a' := ?_) #[true, true, true, true, true, true, true, true, false, false, false] rfl rfl (any_of HT_.out (by kernel_rfl)) (fun _ _ _ h => h) (Or.inl ⟨by rfl, ?_⟩) ?_ ?_
  rotate_left
  · intro w'
    go_simp
    with_reducible rfl
  rotate_left
  · simp only [Act.put, List.setIfInBounds_toArray, List.set_cons_zero, List.set_cons_succ]
    rfl
  refine one_ (i := 8) (N := none) #[true, true, true, true, true, true, true, true, true, false, false] rfl rfl (one_of HT_.out (by kernel_rfl)) (by decide) (fun Kq_ hK_ => ?_)
  refine skip_ (w1 := ?_) (by rfl) rfl ?_ ?_
  rotate_left
  · go_simp
    first | done | rfl
  refine hK_.out _ _ trivial (fun hHeld => ?_)
  clear hK_ Kq_
  refine pure_ (i := 9) (N := some 64) (v := ?_) (a' := ?_) #[true, true, true, true, true, true, true, true, true, true, false] rfl rfl (any_of HT_.out (by kernel_rfl)) (fun _ _ _ h => h) (Or.inl ⟨by rfl, ?_⟩) ?_ ?_
  rotate_left
  · intro w'
    go_simp
    with_reducible rfl
  rotate_left
  · simp only [Act.put, List.setIfInBounds_toArray, List.set_cons_zero, List.set_cons_succ]
    rfl
  refine one_ (i := 10) (N := none) #[true, true, true, true, true, true, true, true, true, true, true] rfl rfl (one_of HT_.out (by kernel_rfl)) (by decide) (fun Kq_ hK_ => ?_)
  refine skip_ (w1 := ?_) (by rfl) rfl ?_ ?_
  rotate_left
  · go_simp
    first | done | rfl
  refine hK_.out _ _ trivial (fun hHeld => ?_)
  clear hK_ Kq_
  refine done_ (done_of HT_.out (by kernel_rfl)) ?_
  clear HT_ hHeld
  go_upto_region 24 with (fail)
  obtain ⟨V18, hV18⟩ : ∃ W, W = ((W1.setCell ⟨g5, 1, none⟩ (.int .u64 (gv b 1 2))).setCell ⟨g5, 2, none⟩ (.int .i64 (gv b 3 4))).drew := ⟨_, rfl⟩
  rw [← hV18]
  replace HD := Aside0.mk (show RS w V18 g5 ⟨gv b 0 1, gv b 1 2, gv b 3 4, 0, 0, 0, 0, 0, 0, 0, []⟩ none 0 by rw [hV18]; exact RS.drew_ ((HD0.out.set_ 1 (.int .u64 (gv b 1 2)) (x' := ⟨gv b 0 1, gv b 1 2, 0, 0, 0, 0, 0, 0, 0, 0, []⟩) (A' := none) (c' := 0) rfl).set_ 2 (.int .i64 (gv b 3 4)) (x' := ⟨gv b 0 1, gv b 1 2, gv b 3 4, 0, 0, 0, 0, 0, 0, 0, []⟩) (A' := none) (c' := 0) rfl))
  clear hV18 c0 c1 c2 c3 c4 c5 c6 c7 c8 c9 c10 z1 z2
  have hx5 := HD.out.cell
  obtain ⟨c0, c1, c2, c3, c4, c5, c6, c7, c8, c9⟩ := cel_at (x := ⟨gv b 0 1, gv b 1 2, gv b 3 4, 0, 0, 0, 0, 0, 0, 0, []⟩) (A := none) (c := 0) hx5
  have c10 : V18.cell? ⟨g5, 10, none⟩ = some (.slice none 0 0) := blk_cell hx5 10
  (try simp only at c0 c1 c2 c3 c4 c5 c6 c7 c8 c9)
  have z6 := blk_frozen hx5 6
  clear hx5
  go_upto_region 27 with (go_at_call 42; go_must (refine (refget_any B7 2 (c - 7) _ _ (Kd.C_below R7.out HD.out.bel) ((HY.out.drop _).take _) (by decide)).mono ?_; rintro e w' ⟨rfl, rfl⟩; rw [GV7.out]))
  obtain ⟨V24, hV24⟩ : ∃ W, W = (V18.setCell ⟨g5, 6, none⟩ (.int .u64 (gv b 7 2))) := ⟨_, rfl⟩
  rw [← hV24]
  replace HD := Aside0.mk (show RS w V24 g5 ⟨gv b 0 1, gv b 1 2, gv b 3 4, 0, 0, 0, gv b 7 2, 0, 0, 0, []⟩ none 0 by rw [hV24]; exact (HD.out.set_ 6 (.int .u64 (gv b 7 2)) (x' := ⟨gv b 0 1, gv b 1 2, gv b 3 4, 0, 0, 0, gv b 7 2, 0, 0, 0, []⟩) (A' := none) (c' := 0) rfl))
  clear hV24 c0 c1 c2 c3 c4 c5 c6 c7 c8 c9 c10 z6
  have lw9 : IntKind.i64.wrap 9 = 9 := by decide
  have lw13 : IntKind.i64.wrap 13 = 13 := by decide
  have lw17 : IntKind.i64.wrap 17 = 17 := by decide
  have lw21 : IntKind.i64.wrap 21 = 21 := by decide
  have hx5 := HD.out.cell
  obtain ⟨c0, c1, c2, c3, c4, c5, c6, c7, c8, c9⟩ := cel_at (x := ⟨gv b 0 1, gv b 1 2, gv b 3 4, 0, 0, 0, gv b 7 2, 0, 0, 0, []⟩) (A := none) (c := 0) hx5
  have c10 : V24.cell? ⟨g5, 10, none⟩ = some (.slice none 0 0) := blk_cell hx5 10
  (try simp only at c0 c1 c2 c3 c4 c5 c6 c7 c8 c9)
  have z7 := blk_frozen hx5 7
  have z8 := blk_frozen hx5 8
  have z9 := blk_frozen hx5 9
  clear hx5
  go_wp2_with (fail)
  have HD0 := HD
  refine start_ (n := 29) (S := fun w' => True) (ds := []) #[false, false, false, false, false, false, false, false, false, false, false, false, false, false, false, false, false, false, false, false, false, false, false, false, false, false, false, false, false] (by kernel_rfl) rfl rfl trivial (fun hHeld => ?_); refine with_tab tabX27_ok (fun HT_ => ?_)
  have hb : Below V24.heap.size V24 V24.drew := below_drew (Below.refl _ _)
  replace HD := Aside0.mk (HD.out.below hb)
  clear hb
  refine pure_ (i := 0) (N := some 91) (v := ?_) (a' := ?_) #[true, false, false, false, false, false, false, false, false, false, false, false, false, false, false, false, false, false, false, false, false, false, false, false, false, false, false, false, false] rfl rfl (any_of HT_.out (by kernel_rfl)) (fun _ _ _ h => h) (Or.inl ⟨by rfl, ?_⟩) ?_ ?_
  rotate_left
  · intro w'
    go_simp
    with_reducible rfl
  rotate_left
  · simp only [Act.put, List.setIfInBounds_toArray, List.set_cons_zero, List.set_cons_succ]
    rfl
  refine pure_ (i := 1) (N := some 92) (v := ?_) (a' := ?_) #[true, true, false, false, false, false, false, false, false, false, false, false, false, false, false, false, false, false, false, false, false, false, false, false, false, false, false, false, false] rfl rfl (any_of HT_.out (by kernel_rfl)) (fun _ _ _ h => h) (Or.inl ⟨by rfl, ?_⟩) ?_ ?_
  rotate_left
  · intro w'
    go_simp
    with_reducible rfl
  rotate_left
  · simp only [Act.put, List.setIfInBounds_toArray, List.set_cons_zero, List.set_cons_succ]
    rfl
  refine pure_ (i := 2) (N := some 93) (v := ?_) (a' := ?_) #[true, true, true, false, false, false, false, false, false, false, false, false, false, false, false, false, false, false, false, false, false, false, false, false, false, false, false, false, false] rfl rfl (any_of HT_.out (by kernel_rfl)) (fun _ _ _ h => h) (Or.inl ⟨by rfl, ?_⟩) ?_ ?_
  rotate_left
  · intro w'
    go_simp
    with_reducible rfl
  rotate_left
  · simp only [Act.put, List.setIfInBounds_toArray, List.set_cons_zero, List.set_cons_succ]
    rfl
  refine pure_ (i := 3) (N := some 94) (v := ?_) (a' := ?_) #[true, true, true, true, false, false, false, false, false, false, false, false, false, false, false, false, false, false, false, false, false, false, false, false, false, false, false, false, false] rfl rfl (any_of HT_.out (by kernel_rfl)) (fun _ _ _ h => h) (Or.inl ⟨by rfl, ?_⟩) ?_ ?_
  rotate_left
  · intro w'
    go_simp
    with_reducible rfl
  rotate_left
  · simp only [Act.put, List.setIfInBounds_toArray, List.set_cons_zero, List.set_cons_succ]
    rfl
  refine pure_ (i := 4) (N := some 95) (v := ?_) (a' := ?_) #[true, true, true, true, true, false, false, false, false, false, false, false, false, false, false, false, false, false, false, false, false, false, false, false, false, false, false, false, false] rfl rfl (any_of HT_.out (by kernel_rfl)) (fun _ _ _ h => h) (Or.inl ⟨by rfl, ?_⟩) ?_ ?_
  rotate_left
  · intro w'
    go_simp
    with_reducible rfl
  rotate_left
  · simp only [Act.put, List.setIfInBounds_toArray, List.set_cons_zero, List.set_cons_succ]
    rfl
  refine pure_ (i := 7) (N := some 98) (v := ?_) (a' := ?_) #[true, true, true, true, true, false, false, true, false, false, false, false, false, false, false, false, false, false, false, false, false, false, false, false, false, false, false, false, false] rfl rfl (any_of HT_.out (by kernel_rfl)) (fun _ _ _ h => h) (Or.inl ⟨by rfl, ?_⟩) ?_ ?_
  rotate_left
  · intro w'
    go_simp
    with_reducible rfl
  rotate_left
  · simp only [Act.put, List.setIfInBounds_toArray, List.set_cons_zero, List.set_cons_succ]
    rfl
  refine pure_ (i := 8) (N := some 99) (v := ?_) (a' := ?_) #[true, true, true, true, true, false, false, true, true, false, false, false, false, false, false, false, false, false, false, false, false, false, false, false, false, false, false, false, false] rfl rfl (any_of HT_.out (by kernel_rfl)) (fun _ _ _ h => h) (Or.inl ⟨by rfl, ?_⟩) ?_ ?_
  rotate_left
  · intro w'
    go_simp
    with_reducible rfl
  rotate_left
  · simp only [Act.put, List.setIfInBounds_toArray, List.set_cons_zero, List.set_cons_succ]
    rfl
  refine pure_ (i := 9) (N := some 100) (v := ?_) (a' := ?_) #[true, true, true, true, true, false, false, true, true, true, false, false, false, false, false, false, false, false, false, false, false, false, false, false, false, false, false, false, false] rfl rfl (any_of HT_.out (by kernel_rfl)) (fun _ _ _ h => h) (Or.inl ⟨by rfl, ?_⟩) ?_ ?_
  rotate_left
  · intro w'
    go_simp
    with_reducible rfl
  rotate_left
  · simp only [Act.put, List.setIfInBounds_toArray, List.set_cons_zero, List.set_cons_succ]
    rfl
  refine pure_ (i := 10) (N := some 101) (v := ?_) (a' := ?_) #[true, true, true, true, true, false, false, true, true, true, true, false, false, false, false, false, false, false, false, false, false, false, false, false, false, false, false, false, false] rfl rfl (any_of HT_.out (by kernel_rfl)) (fun _ _ _ h => h) (Or.inl ⟨by rfl, ?_⟩) ?_ ?_
  rotate_left
  · intro w'
    go_simp
    with_reducible rfl
  rotate_left
  · simp only [Act.put, List.setIfInBounds_toArray, List.set_cons_zero, List.set_cons_succ]
    rfl
  refine pure_ (i := 11) (N := some 102) (v := ?_) (a' := ?_) #[true, true, true, true, true, false, false, true, true, true, true, true, false, false, false, false, false, false, false, false, false, false, false, false, false, false, false, false, false] rfl rfl (any_of HT_.out (by kernel_rfl)) (fun _ _ _ h => h) (Or.inl ⟨by rfl, ?_⟩) ?_ ?_
  rotate_left
  · intro w'
    go_simp
    with_reducible rfl
  rotate_left
  · simp only [Act.put, List.setIfInBounds_toArray, List.set_cons_zero, List.set_cons_succ]
    rfl
  refine pure_ (i := 12) (N := some 103) (v := ?_) (a' := ?_) #[true, true, true, true, true, false, false, true, true, true, true, true, true, false, false, false, false, false, false, false, false, false, false, false, false, false, false, false, false] rfl rfl (any_of HT_.out (by kernel_rfl)) (fun _ _ _ h => h) (Or.inl ⟨by rfl, ?_⟩) ?_ ?_
  rotate_left
  · intro w'
    go_simp
    with_reducible rfl
  rotate_left
  · simp only [Act.put, List.setIfInBounds_toArray, List.set_cons_zero, List.set_cons_succ]
    rfl
  refine pure_ (i := 15) (N := some 106) (v := ?_) (a' := ?_) #[true, true, true, true, true, false, false, true, true, true, true, true, true, false, false, true, false, false, false, false, false, false, false, false, false, false, false, false, false] rfl rfl (any_of HT_.out (by kernel_rfl)) (fun _ _ _ h => h) (Or.inl ⟨by rfl, ?_⟩) ?_ ?_
  rotate_left
  · intro w'
    go_simp
    with_reducible rfl
  rotate_left
  · simp only [Act.put, List.setIfInBounds_toArray, List.set_cons_zero, List.set_cons_succ]
    rfl
  refine pure_ (i := 16) (N := some 107) (v := ?_) (a' := ?_) #[true, true, true, true, true, false, false, true, true, true, true, true, true, false, false, true, true, false, false, false, false, false, false, false, false, false, false, false, false] rfl rfl (any_of HT_.out (by kernel_rfl)) (fun _ _ _ h => h) (Or.inl ⟨by rfl, ?_⟩) ?_ ?_
  rotate_left
  · intro w'
    go_simp
    with_reducible rfl
  rotate_left
  · simp only [Act.put, List.setIfInBounds_toArray, List.set_cons_zero, List.set_cons_succ]
    rfl
  refine pure_ (i := 17) (N := some 108) (v := ?_) (a' := ?_) #[true, true, true, true, true, false, false, true, true, true, true, true, true, false, false, true, true, true, false, false, false, false, false, false, false, false, false, false, false] rfl rfl (any_of HT_.out (by kernel_rfl)) (fun _ _ _ h => h) (Or.inl ⟨by rfl, ?_⟩) ?_ ?_
  rotate_left
  · intro w'
    go_simp
    with_reducible rfl
  rotate_left
  · simp only [Act.put, List.setIfInBounds_toArray, List.set_cons_zero, List.set_cons_succ]
    rfl
  refine pure_ (i := 18) (N := some 109) (v := ?_) (a' := ?_) #[true, true, true, true, true, false, false, true, true, true, true, true, true, false, false, true, true, true, true, false, false, false, false, false, false, false, false, false, false] rfl rfl (any_of HT_.out (by kernel_rfl)) (fun _ _ _ h => h) (Or.inl ⟨by rfl, ?_⟩) ?_ ?_
  rotate_left
  · intro w'
    go_simp
    with_reducible rfl
  rotate_left
  · simp only [Act.put, List.setIfInBounds_toArray, List.set_cons_zero, List.set_cons_succ]
    rfl
  refine pure_ (i := 19) (N := some 110) (v := ?_) (a' := ?_) #[true, true, true, true, true, false, false, true, true, true, true, true, true, false, false, true, true, true, true, true, false, false, false, false, false, false, false, false, false] rfl rfl (any_of HT_.out (by kernel_rfl)) (fun _ _ _ h => h) (Or.inl ⟨by rfl, ?_⟩) ?_ ?_
  rotate_left
  · intro w'
    go_simp
    with_reducible rfl
  rotate_left
  · simp only [Act.put, List.setIfInBounds_toArray, List.set_cons_zero, List.set_cons_succ]
    rfl
  refine pure_ (i := 20) (N := some 111) (v := ?_) (a' := ?_) #[true, true, true, true, true, false, false, true, true, true, true, true, true, false, false, true, true, true, true, true, true, false, false, false, false, false, false, false, false] rfl rfl (any_of HT_.out (by kernel_rfl)) (fun _ _ _ h => h) (Or.inl ⟨by rfl, ?_⟩) ?_ ?_
  rotate_left
  · intro w'
    go_simp
    with_reducible rfl
  rotate_left
  · simp only [Act.put, List.setIfInBounds_toArray, List.set_cons_zero, List.set_cons_succ]
    rfl
  refine one_ (i := 5) (N := some 96) #[true, true, true, true, true, true, false, true, true, true, true, true, true, false, false, true, true, true, true, true, true, false, false, false, false, false, false, false, false] rfl rfl (one_of HT_.out (by kernel_rfl)) (by decide) (fun Kq_ hK_ => ?_)
  refine goes_ Try.func42 (by kernel_rfl) rfl #[.slice B9 4 (c - 9)] (by rfl) rfl rfl (by (try simp only [List.map_toArray, List.map_cons, List.map_nil]); first | done | rfl) ?_
  with_reducible refine (refget_any B9 4 (c - 9) _ _ (Kd.C_below R9.out HD.out.bel) ((HY.out.drop _).take _) (by decide)).mono ?_
  rintro e w' ⟨rfl, rfl⟩
  refine ⟨_, rfl, ?_⟩
  rw [GV9.out]
  refine hK_.out _ _ trivial (fun hHeld => ?_)
  clear hK_ Kq_
  refine norm_ (a' := ?_) ?_ ?_
  rotate_left
  · show Act.put _ (some 96) _ = _
    simp only [Act.put, List.setIfInBounds_toArray, List.set_cons_zero, List.set_cons_succ]
    rfl
  refine pure_ (i := 6) (N := some 97) (v := ?_) (a' := ?_) #[true, true, true, true, true, true, true, true, true, true, true, true, true, false, false, true, true, true, true, true, true, false, false, false, false, false, false, false, false] rfl rfl (any_of HT_.out (by kernel_rfl)) (fun _ _ _ h => h) (Or.inl ⟨by rfl, ?_⟩) ?_ ?_
  rotate_left
  · intro w'
    go_simp
    with_reducible rfl
  rotate_left
  · simp only [Act.put, List.setIfInBounds_toArray, List.set_cons_zero, List.set_cons_succ]
    rfl
  refine pure_ (i := 23) (N := some 114) (v := ?_) (a' := ?_) #[true, true, true, true, true, true, true, true, true, true, true, true, true, false, false, true, true, true, true, true, true, false, false, true, false, false, false, false, false] rfl rfl (any_of HT_.out (by kernel_rfl)) (fun _ _ _ h => h) (Or.inl ⟨by rfl, ?_⟩) ?_ ?_
  rotate_left
  · intro w'
    go_simp
    with_reducible rfl
  rotate_left
  · simp only [Act.put, List.setIfInBounds_toArray, List.set_cons_zero, List.set_cons_succ]
    rfl
  refine one_ (i := 13) (N := some 104) #[true, true, true, true, true, true, true, true, true, true, true, true, true, true, false, true, true, true, true, true, true, false, false, true, false, false, false, false, false] rfl rfl (one_of HT_.out (by kernel_rfl)) (by decide) (fun Kq_ hK_ => ?_)
  refine goes_ Try.func42 (by kernel_rfl) rfl #[.slice B13 4 (c - 13)] (by rfl) rfl rfl (by (try simp only [List.map_toArray, List.map_cons, List.map_nil]); first | done | rfl) ?_
  with_reducible refine (refget_any B13 4 (c - 13) _ _ (Kd.C_below R13.out HD.out.bel) ((HY.out.drop _).take _) (by decide)).mono ?_
  rintro e w' ⟨rfl, rfl⟩
  refine ⟨_, rfl, ?_⟩
  rw [GV13.out]
  refine hK_.out _ _ trivial (fun hHeld => ?_)
  clear hK_ Kq_
  refine norm_ (a' := ?_) ?_ ?_
  rotate_left
  · show Act.put _ (some 104) _ = _
    simp only [Act.put, List.setIfInBounds_toArray, List.set_cons_zero, List.set_cons_succ]
    rfl
  refine pure_ (i := 14) (N := some 105) (v := ?_) (a' := ?_) #[true, true, true, true, true, true, true, true, true, true, true, true, true, true, true, true, true, true, true, true, true, false, false, true, false, false, false, false, false] rfl rfl (any_of HT_.out (by kernel_rfl)) (fun _ _ _ h => h) (Or.inl ⟨by rfl, ?_⟩) ?_ ?_
  rotate_left
  · intro w'
    go_simp
    with_reducible rfl
  rotate_left
  · simp only [Act.put, List.setIfInBounds_toArray, List.set_cons_zero, List.set_cons_succ]
    rfl
  refine one_ (i := 21) (N := some 112) #[true, true, true, true, true, true, true, true, true, true, true, true, true, true, true, true, true, true, true, true, true, true, false, true, false, false, false, false, false] rfl rfl (one_of HT_.out (by kernel_rfl)) (by decide) (fun Kq_ hK_ => ?_)
  refine goes_ Try.func42 (by kernel_rfl) rfl #[.slice B17 4 (c - 17)] (by rfl) rfl rfl (by (try simp only [List.map_toArray, List.map_cons, List.map_nil]); first | done | rfl) ?_
  with_reducible refine (refget_any B17 4 (c - 17) _ _ (Kd.C_below R17.out HD.out.bel) ((HY.out.drop _).take _) (by decide)).mono ?_
  rintro e w' ⟨rfl, rfl⟩
  refine ⟨_, rfl, ?_⟩
  rw [GV17.out]
  refine hK_.out _ _ trivial (fun hHeld => ?_)
  clear hK_ Kq_
  refine norm_ (a' := ?_) ?_ ?_
  rotate_left
  · show Act.put _ (some 112) _ = _
    simp only [Act.put, List.setIfInBounds_toArray, List.set_cons_zero, List.set_cons_succ]
    rfl
  refine pure_ (i := 22) (N := some 113) (v := ?_) (a' := ?_) #[true, true, true, true, true, true, true, true, true, true, true, true, true, true, true, true, true, true, true, true, true, true, true, true, false, false, false, false, false] rfl rfl (any_of HT_.out (by kernel_rfl)) (fun _ _ _ h => h) (Or.inl ⟨by rfl, ?_⟩) ?_ ?_
  rotate_left
  · intro w'
    go_simp
    with_reducible rfl
  rotate_left
  · simp only [Act.put, List.setIfInBounds_toArray, List.set_cons_zero, List.set_cons_succ]
    rfl
  refine one_ (i := 24) (N := none) #[true, true, true, true, true, true, true, true, true, true, true, true, true, true, true, true, true, true, true, true, true, true, true, true, true, false, false, false, false] rfl rfl (one_of HT_.out (by kernel_rfl)) (by decide) (fun Kq_ hK_ => ?_)
  refine skip_ (w1 := ?_) (by rfl) rfl ?_ ?_
  rotate_left
  · go_simp
    first | done | rfl
  refine hK_.out _ _ trivial (fun hHeld => ?_)
  clear hK_ Kq_
  refine pure_ (i := 25) (N := some 115) (v := ?_) (a' := ?_) #[true, true, true, true, true, true, true, true, true, true, true, true, true, true, true, true, true, true, true, true, true, true, true, true, true, true, false, false, false] rfl rfl (any_of HT_.out (by kernel_rfl)) (fun _ _ _ h => h) (Or.inl ⟨by rfl, ?_⟩) ?_ ?_
  rotate_left
  · intro w'
    go_simp
    with_reducible rfl
  rotate_left
  · simp only [Act.put, List.setIfInBounds_toArray, List.set_cons_zero, List.set_cons_succ]
    rfl
  refine one_ (i := 26) (N := none) #[true, true, true, true, true, true, true, true, true, true, true, true, true, true, true, true, true, true, true, true, true, true, true, true, true, true, true, false, false] rfl rfl (one_of HT_.out (by kernel_rfl)) (by decide) (fun Kq_ hK_ => ?_)
  refine skip_ (w1 := ?_) (by rfl) rfl ?_ ?_
  rotate_left
  · go_simp
    first | done | rfl
  refine hK_.out _ _ trivial (fun hHeld => ?_)
  clear hK_ Kq_
  refine pure_ (i := 27) (N := some 116) (v := ?_) (a' := ?_) #[true, true, true, true, true, true, true, true, true, true, true, true, true, true, true, true, true, true, true, true, true, true, true, true, true, true, true, true, false] rfl rfl (any_of HT_.out (by kernel_rfl)) (fun _ _ _ h => h) (Or.inl ⟨by rfl, ?_⟩) ?_ ?_
  rotate_left
  · intro w'
    go_simp
    with_reducible rfl
  rotate_left
  · simp only [Act.put, List.setIfInBounds_toArray, List.set_cons_zero, List.set_cons_succ]
    rfl
  refine one_ (i := 28) (N := none) #[true, true, true, true, true, true, true, true, true, true, true, true, true, true, true, true, true, true, true, true, true, true, true, true, true, true, true, true, true] rfl rfl (one_of HT_.out (by kernel_rfl)) (by decide) (fun Kq_ hK_ => ?_)
  refine skip_ (w1 := ?_) (by rfl) rfl ?_ ?_
  rotate_left
  · go_simp
    first | done | rfl
  refine hK_.out _ _ trivial (fun hHeld => ?_)
  clear hK_ Kq_
  refine done_ (done_of HT_.out (by kernel_rfl)) ?_
  clear HT_ hHeld
  go_upto_region 36 with (fail)
  obtain ⟨V27, hV27⟩ : ∃ W, W = (((V24.setCell ⟨g5, 7, none⟩ (.int .i64 (gv b 9 4))).setCell ⟨g5, 8, none⟩ (.int .i64 (gv b 13 4))).setCell ⟨g5, 9, none⟩ (.int .i64 (gv b 17 4))).drew := ⟨_, rfl⟩
  rw [← hV27]
  replace HD := Aside0.mk (show RS w V27 g5 ⟨gv b 0 1, gv b 1 2, gv b 3 4, 0, 0, 0, gv b 7 2, gv b 9 4, gv b 13 4, gv b 17 4, []⟩ none 0 by rw [hV27]; exact RS.drew_ (((HD0.out.set_ 7 (.int .i64 (gv b 9 4)) (x' := ⟨gv b 0 1, gv b 1 2, gv b 3 4, 0, 0, 0, gv b 7 2, gv b 9 4, 0, 0, []⟩) (A' := none) (c' := 0) rfl).set_ 8 (.int .i64 (gv b 13 4)) (x' := ⟨gv b 0 1, gv b 1 2, gv b 3 4, 0, 0, 0, gv b 7 2, gv b 9 4, gv b 13 4, 0, []⟩) (A' := none) (c' := 0) rfl).set_ 9 (.int .i64 (gv b 17 4)) (x' := ⟨gv b 0 1, gv b 1 2, gv b 3 4, 0, 0, 0, gv b 7 2, gv b 9 4, gv b 13 4, gv b 17 4, []⟩) (A' := none) (c' := 0) rfl))
  clear hV27 c0 c1 c2 c3 c4 c5 c6 c7 c8 c9 c10 z7 z8 z9
  have HL2 := HLEN
  replace HD := Aside0.mk (show RS w V27 g5 x9 none 0 by rw [hx9.out]; exact HD.out)
  have HRX := Aside0.mk (show RdN v none x9.body.length x9.body by rw [hx9.out]; exact RdB_nil _)
  have hx5 := HD.out.cell
  obtain ⟨c0, c1, c2, c3, c4, c5, c6, c7, c8, c9⟩ := cel_at (x := x9) (A := none) (c := 0) hx5
  have c10 : V27.cell? ⟨g5, 10, none⟩ = some (.slice none x9.body.length 0) := blk_cell hx5 10
  (try simp only at c0 c1 c2 c3 c4 c5 c6 c7 c8 c9)
  clear hx5
  have hxr := HD.out.res
  have t0 : V27.cell? ⟨w.heap.size, 0, none⟩ = some (.int .i64 0) := blk_cell hxr 0
  have t1 : V27.cell? ⟨w.heap.size, 1, none⟩ = some (.int .u64 0) := blk_cell hxr 1
  have t2 : V27.cell? ⟨w.heap.size, 2, none⟩ = some (.int .i64 0) := blk_cell hxr 2
  have t3 : V27.cell? ⟨w.heap.size, 3, none⟩ = some (.int .i64 0) := blk_cell hxr 3
  have t4 : V27.cell? ⟨w.heap.size, 4, none⟩ = some (.int .i64 0) := blk_cell hxr 4
  have t5 : V27.cell? ⟨w.heap.size, 5, none⟩ = some (.int .i64 0) := blk_cell hxr 5
  have t6 : V27.cell? ⟨w.heap.size, 6, none⟩ = some (.int .u64 0) := blk_cell hxr 6
  have t7 : V27.cell? ⟨w.heap.size, 7, none⟩ = some (.int .i64 0) := blk_cell hxr 7
  have t8 : V27.cell? ⟨w.heap.size, 8, none⟩ = some (.int .i64 0) := blk_cell hxr 8
  have t9 : V27.cell? ⟨w.heap.size, 9, none⟩ = some (.int .i64 0) := blk_cell hxr 9
  have t10 : V27.cell? ⟨w.heap.size, 10, none⟩ = some (.slice none 0 0) := blk_cell hxr 10
  have zt0 := blk_frozen hxr 0
  have zt1 := blk_frozen hxr 1
  have zt2 := blk_frozen hxr 2
  have zt3 := blk_frozen hxr 3
  have zt4 := blk_frozen hxr 4
  have zt5 := blk_frozen hxr 5
  have zt6 := blk_frozen hxr 6
  have zt7 := blk_frozen hxr 7
  have zt8 := blk_frozen hxr 8
  have zt9 := blk_frozen hxr 9
  have zt10 := blk_frozen hxr 10
  clear hxr
  cases hq : rightB x9 with
  | false =>
    have HE := Aside0.mk (show res = (cel0, 0, 3) by rw [hres.out, if_neg HL2.out, if_neg (by rw [hq]; simp)])
    go_wp2_with (go_at_call 10; go_must (refine (refright_any x9 none 0 _ (Kd.C_below (Kd.C_below HRX.out HVW.out) HD.out.bel) hwf.out.2.2).mono ?_; rintro e y9 ⟨rfl, hb⟩; rw [hq]; replace HD := Aside0.mk (HD.out.below hb); clear c0 c1 c2 c3 c4 c5 c6 c7 c8 c9 c10 t0 zt0 t1 zt1 t2 zt2 t3 zt3 t4 zt4 t5 zt5 t6 zt6 t7 zt7 t8 zt8 t9 zt9 t10 zt10; have hx5 := HD.out.cell; obtain ⟨c0, c1, c2, c3, c4, c5, c6, c7, c8, c9⟩ := cel_at (x := x9) (A := none) (c := 0) hx5; have c10 : y9.cell? ⟨g5, 10, none⟩ = some (.slice none x9.body.length 0) := blk_cell hx5 10; (try simp only at c0 c1 c2 c3 c4 c5 c6 c7 c8 c9); clear hx5; have hxr := HD.out.res; have t0 : y9.cell? ⟨w.heap.size, 0, none⟩ = some (.int .i64 0) := blk_cell hxr 0; have t1 : y9.cell? ⟨w.heap.size, 1, none⟩ = some (.int .u64 0) := blk_cell hxr 1; have t2 : y9.cell? ⟨w.heap.size, 2, none⟩ = some (.int .i64 0) := blk_cell hxr 2; have t3 : y9.cell? ⟨w.heap.size, 3, none⟩ = some (.int .i64 0) := blk_cell hxr 3; have t4 : y9.cell? ⟨w.heap.size, 4, none⟩ = some (.int .i64 0) := blk_cell hxr 4; have t5 : y9.cell? ⟨w.heap.size, 5, none⟩ = some (.int .i64 0) := blk_cell hxr 5; have t6 : y9.cell? ⟨w.heap.size, 6, none⟩ = some (.int .u64 0) := blk_cell hxr 6; have t7 : y9.cell? ⟨w.heap.size, 7, none⟩ = some (.int .i64 0) := blk_cell hxr 7; have t8 : y9.cell? ⟨w.heap.size, 8, none⟩ = some (.int .i64 0) := blk_cell hxr 8; have t9 : y9.cell? ⟨w.heap.size, 9, none⟩ = some (.int .i64 0) := blk_cell hxr 9; have t10 : y9.cell? ⟨w.heap.size, 10, none⟩ = some (.slice none 0 0) := blk_cell hxr 10; have zt0 := blk_frozen hxr 0; have zt1 := blk_frozen hxr 1; have zt2 := blk_frozen hxr 2; have zt3 := blk_frozen hxr 3; have zt4 := blk_frozen hxr 4; have zt5 := blk_frozen hxr 5; have zt6 := blk_frozen hxr 6; have zt7 := blk_frozen hxr 7; have zt8 := blk_frozen hxr 8; have zt9 := blk_frozen hxr 9; have zt10 := blk_frozen hxr 10; clear hxr; clear hb))
    obtain ⟨W9, hW9⟩ : ∃ W9, W9 = (((((((((((y9.setCell ⟨w.heap.size, 0, none⟩ (.int .i64 0)).setCell ⟨w.heap.size, 1, none⟩ (.int .u64 0)).setCell ⟨w.heap.size, 2, none⟩ (.int .i64 0)).setCell ⟨w.heap.size, 3, none⟩ (.int .i64 0)).setCell ⟨w.heap.size, 4, none⟩ (.int .i64 0)).setCell ⟨w.heap.size, 5, none⟩ (.int .i64 0)).setCell ⟨w.heap.size, 6, none⟩ (.int .u64 0)).setCell ⟨w.heap.size, 7, none⟩ (.int .i64 0)).setCell ⟨w.heap.size, 8, none⟩ (.int .i64 0)).setCell ⟨w.heap.size, 9, none⟩ (.int .i64 0)).setCell ⟨w.heap.size, 10, none⟩ (.slice none 0 0)) := ⟨_, rfl⟩
    rw [← hW9]
    have hr9 : W9.heap[w.heap.size]? = some (.cells (celA cel0 none 0) 30 (0, 0)) := by rw [hW9]; exact putCell_at (x := cel0) (A := none) (c := 0) HD.out.res
    have hb9 : Below w.heap.size w W9 := by rw [hW9]; exact putCell_below (x := cel0) (A := none) (c := 0) HD.out.bel (Nat.le_refl _)
    clear hW9 t0 t1 t2 t3 t4 t5 t6 t7 t8 t9 t10
    have t0 : W9.cell? ⟨w.heap.size, 0, none⟩ = some (.int .i64 0) := blk_cell hr9 0
    have t1 : W9.cell? ⟨w.heap.size, 1, none⟩ = some (.int .u64 0) := blk_cell hr9 1
    have t2 : W9.cell? ⟨w.heap.size, 2, none⟩ = some (.int .i64 0) := blk_cell hr9 2
    have t3 : W9.cell? ⟨w.heap.size, 3, none⟩ = some (.int .i64 0) := blk_cell hr9 3
    have t4 : W9.cell? ⟨w.heap.size, 4, none⟩ = some (.int .i64 0) := blk_cell hr9 4
    have t5 : W9.cell? ⟨w.heap.size, 5, none⟩ = some (.int .i64 0) := blk_cell hr9 5
    have t6 : W9.cell? ⟨w.heap.size, 6, none⟩ = some (.int .u64 0) := blk_cell hr9 6
    have t7 : W9.cell? ⟨w.heap.size, 7, none⟩ = some (.int .i64 0) := blk_cell hr9 7
    have t8 : W9.cell? ⟨w.heap.size, 8, none⟩ = some (.int .i64 0) := blk_cell hr9 8
    have t9 : W9.cell? ⟨w.heap.size, 9, none⟩ = some (.int .i64 0) := blk_cell hr9 9
    have t10 : W9.cell? ⟨w.heap.size, 10, none⟩ = some (.slice none 0 0) := blk_cell hr9 10
    refine bodyPost_ret (v := .tuple #[.agg (celA cel0 none 0), .int .i64 0, .int .i64 3]) (by simp [results, Try.results28, go_sem, cel0, t0, t1, t2, t3, t4, t5, t6, t7, t8, t9, t10]) rfl ?_
    rw [HE.out]
    exact ⟨⟨none, 0, rfl, RdB_nil _⟩, hb9⟩
  | true =>
    have HE := Aside0.mk (show res = (x9, ((21 : Nat) : Int), 0) by rw [hres.out, if_neg HL2.out, if_pos hq])
    go_wp2_with (go_at_call 10; go_must (refine (refright_any x9 none 0 _ (Kd.C_below (Kd.C_below HRX.out HVW.out) HD.out.bel) hwf.out.2.2).mono ?_; rintro e y9 ⟨rfl, hb⟩; rw [hq]; replace HD := Aside0.mk (HD.out.below hb); clear c0 c1 c2 c3 c4 c5 c6 c7 c8 c9 c10 t0 zt0 t1 zt1 t2 zt2 t3 zt3 t4 zt4 t5 zt5 t6 zt6 t7 zt7 t8 zt8 t9 zt9 t10 zt10; have hx5 := HD.out.cell; obtain ⟨c0, c1, c2, c3, c4, c5, c6, c7, c8, c9⟩ := cel_at (x := x9) (A := none) (c := 0) hx5; have c10 : y9.cell? ⟨g5, 10, none⟩ = some (.slice none x9.body.length 0) := blk_cell hx5 10; (try simp only at c0 c1 c2 c3 c4 c5 c6 c7 c8 c9); clear hx5; have hxr := HD.out.res; have t0 : y9.cell? ⟨w.heap.size, 0, none⟩ = some (.int .i64 0) := blk_cell hxr 0; have t1 : y9.cell? ⟨w.heap.size, 1, none⟩ = some (.int .u64 0) := blk_cell hxr 1; have t2 : y9.cell? ⟨w.heap.size, 2, none⟩ = some (.int .i64 0) := blk_cell hxr 2; have t3 : y9.cell? ⟨w.heap.size, 3, none⟩ = some (.int .i64 0) := blk_cell hxr 3; have t4 : y9.cell? ⟨w.heap.size, 4, none⟩ = some (.int .i64 0) := blk_cell hxr 4; have t5 : y9.cell? ⟨w.heap.size, 5, none⟩ = some (.int .i64 0) := blk_cell hxr 5; have t6 : y9.cell? ⟨w.heap.size, 6, none⟩ = some (.int .u64 0) := blk_cell hxr 6; have t7 : y9.cell? ⟨w.heap.size, 7, none⟩ = some (.int .i64 0) := blk_cell hxr 7; have t8 : y9.cell? ⟨w.heap.size, 8, none⟩ = some (.int .i64 0) := blk_cell hxr 8; have t9 : y9.cell? ⟨w.heap.size, 9, none⟩ = some (.int .i64 0) := blk_cell hxr 9; have t10 : y9.cell? ⟨w.heap.size, 10, none⟩ = some (.slice none 0 0) := blk_cell hxr 10; have zt0 := blk_frozen hxr 0; have zt1 := blk_frozen hxr 1; have zt2 := blk_frozen hxr 2; have zt3 := blk_frozen hxr 3; have zt4 := blk_frozen hxr 4; have zt5 := blk_frozen hxr 5; have zt6 := blk_frozen hxr 6; have zt7 := blk_frozen hxr 7; have zt8 := blk_frozen hxr 8; have zt9 := blk_frozen hxr 9; have zt10 := blk_frozen hxr 10; clear hxr; clear hb))
    obtain ⟨W9, hW9⟩ : ∃ W9, W9 = (((((((((((y9.setCell ⟨w.heap.size, 0, none⟩ (.int .i64 x9.kind)).setCell ⟨w.heap.size, 1, none⟩ (.int .u64 x9.num)).setCell ⟨w.heap.size, 2, none⟩ (.int .i64 x9.min)).setCell ⟨w.heap.size, 3, none⟩ (.int .i64 x9.br)).setCell ⟨w.heap.size, 4, none⟩ (.int .i64 x9.vol)).setCell ⟨w.heap.size, 5, none⟩ (.int .i64 x9.blk)).setCell ⟨w.heap.size, 6, none⟩ (.int .u64 x9.ref)).setCell ⟨w.heap.size, 7, none⟩ (.int .i64 x9.fr)).setCell ⟨w.heap.size, 8, none⟩ (.int .i64 x9.to)).setCell ⟨w.heap.size, 9, none⟩ (.int .i64 x9.un)).setCell ⟨w.heap.size, 10, none⟩ (.slice none x9.body.length 0)) := ⟨_, rfl⟩
    rw [← hW9]
    have hr9 : W9.heap[w.heap.size]? = some (.cells (celA x9 none 0) 30 (0, 0)) := by rw [hW9]; exact putCell_at (x := x9) (A := none) (c := 0) HD.out.res
    have hb9 : Below w.heap.size w W9 := by rw [hW9]; exact putCell_below (x := x9) (A := none) (c := 0) HD.out.bel (Nat.le_refl _)
    clear hW9 t0 t1 t2 t3 t4 t5 t6 t7 t8 t9 t10
    have t0 : W9.cell? ⟨w.heap.size, 0, none⟩ = some (.int .i64 x9.kind) := blk_cell hr9 0
    have t1 : W9.cell? ⟨w.heap.size, 1, none⟩ = some (.int .u64 x9.num) := blk_cell hr9 1
    have t2 : W9.cell? ⟨w.heap.size, 2, none⟩ = some (.int .i64 x9.min) := blk_cell hr9 2
    have t3 : W9.cell? ⟨w.heap.size, 3, none⟩ = some (.int .i64 x9.br) := blk_cell hr9 3
    have t4 : W9.cell? ⟨w.heap.size, 4, none⟩ = some (.int .i64 x9.vol) := blk_cell hr9 4
    have t5 : W9.cell? ⟨w.heap.size, 5, none⟩ = some (.int .i64 x9.blk) := blk_cell hr9 5
    have t6 : W9.cell? ⟨w.heap.size, 6, none⟩ = some (.int .u64 x9.ref) := blk_cell hr9 6
    have t7 : W9.cell? ⟨w.heap.size, 7, none⟩ = some (.int .i64 x9.fr) := blk_cell hr9 7
    have t8 : W9.cell? ⟨w.heap.size, 8, none⟩ = some (.int .i64 x9.to) := blk_cell hr9 8
    have t9 : W9.cell? ⟨w.heap.size, 9, none⟩ = some (.int .i64 x9.un) := blk_cell hr9 9
    have t10 : W9.cell? ⟨w.heap.size, 10, none⟩ = some (.slice none x9.body.length 0) := blk_cell hr9 10
    refine bodyPost_ret (v := .tuple #[.agg (celA x9 none 0), .int .i64 ((21 : Nat) : Int), .int .i64 0]) (by simp [results, Try.results28, go_sem, t0, t1, t2, t3, t4, t5, t6, t7, t8, t9, t10]) rfl ?_
    rw [HE.out]
    exact ⟨⟨none, 0, rfl, HRX.out⟩, hb9⟩
set_option maxHeartbeats 6400000 in
set_option maxRecDepth 100000 in
theorem refdec_r (A : Option Addr) (c : Nat) (b : List Int) (v w : World) (hv : Below v.heap.size v w) (hr : RdB v A b) (hc : b.length ≤ c) (hy : Byt b) (hl1000 : b.length ≤ 1000) (h00 : b.length ≠ 0) (hP : Aside0 (hasPlace (gv b 0 1) = false ∧ hasRef (gv b 0 1) = true ∧ hasMin (gv b 0 1) = false ∧ hasBody (gv b 0 1) = false)) (hk1 : decide (gv b 0 1 < 1) = false) (hk8 : decide (8 < gv b 0 1) = false) (nb : Nat) (hnb : Aside0 (nb = 0))
    (x9 : Cel) (hx9 : Aside0 (x9 = ⟨gv b 0 1, gv b 1 2, gv b 3 4, 0, 0, 0, gv b 7 2, 0, 0, 0, []⟩)) (hwf : Aside0 (CelWf x9)) (res : Cel × Int × Int)
    (hres : Aside0 (res = if b.length < 9 then (cel0, 0, 14) else if rightB x9 then (x9, ((9 : Nat) : Int), 0) else (cel0, 0, 3))) :
    Calls Try.prog 28 #[.slice A b.length c] w fun e w' => RDecdV v w w' e res := by
  have hmx := C_max hr
  have HVW := Aside0.mk hv
  have HRV := Aside0.mk hr
  replace hr := Kd.C_below hr hv
  have HR := Aside0.mk hr
  have HY := Aside0.mk hy
  have HC := Aside0.mk hc
  obtain ⟨ad, rfl, h0⟩ := cell_in hr 0 (by omega)
  rw [add_0] at h0
  have hg0 := gv_range hy 0 1
  have e0 : IntKind.i64.wrap (gv b 0 1) = gv b 0 1 := IntWalk.i64_in _ (by omega)
  clear hr hy hc hg0 hv
  have hb0 : (b.length : Int) ≠ 0 := by omega
  have fb0 : ((b.length : Int) == 0) = false := beq_eq_false_iff_ne.2 hb0
  have hbi : (0 : Int) < (b.length : Int) := by omega
  go_enter Try.func28, Try.ntmps28
  go_upto_region 3 with (fail)
  obtain ⟨W0, hW0⟩ : ∃ W0, W0 = w.alloc (.cells #[.int .i64 0, .int .u64 0, .int .i64 0, .int .i64 0, .int .i64 0, .int .i64 0, .int .u64 0, .int .i64 0, .int .i64 0, .int .i64 0, .slice none 0 0] 30) := ⟨_, rfl⟩
  rw [← hW0]
  have hb1 : Below w.heap.size w W0 := by rw [hW0]; exact below_alloc (Below.refl _ _) _
  have hres0 : W0.heap[w.heap.size]? = some (.cells (celA cel0 none 0) 30 (0, 0)) := by rw [hW0]; exact blk_new _ _
  have h0' := pw_cell_below hb1 h0
  have hsz : W0.heap.size = w.heap.size + 1 := by rw [hW0]; simp
  have HS0 := Aside0.mk (And.intro hb1 (And.intro hres0 hsz))
  clear hW0 hb1 hres0 h0 hsz
  by_cases hlt : b.length < 9
  · have HE := Aside0.mk (show res = (cel0, 0, 14) by rw [hres.out, if_pos (by omega)])
    go_upto_region 17 with (go_at_call 38; go_must (refine (refhas_any (gv b 0 1) _).mono ?_; rintro e w3 ⟨rfl, rfl⟩; rw [hP.out.1, hP.out.2.1, hP.out.2.2.1, hP.out.2.2.2]))
    obtain ⟨W1, hW1⟩ : ∃ W1, W1 = W0.alloc (.cells #[.int .i64 (gv b 0 1), .int .u64 0, .int .i64 0, .int .i64 0, .int .i64 0, .int .i64 0, .int .u64 0, .int .i64 0, .int .i64 0, .int .i64 0, .slice none 0 0] 30) := ⟨_, rfl⟩
    rw [← hW1]
    have HD := Aside0.mk (show RS w W1 W0.heap.size ⟨gv b 0 1, 0, 0, 0, 0, 0, 0, 0, 0, 0, []⟩ none 0 from { cell := (by rw [hW1]; exact blk_new _ _), res := (by rw [hW1]; exact blk_alloc HS0.out.2.1 _), bel := (by rw [hW1]; exact HS0.out.1.alloc (by rw [HS0.out.2.2]; omega) _), ord := (by rw [HS0.out.2.2]; omega) })
    obtain ⟨g5, hg5⟩ : ∃ g, g = W0.heap.size := ⟨_, rfl⟩
    rw [← hg5] at HD ⊢
    clear hW1 hg5 h0'
    have hxr := HD.out.res
    have t0 : W1.cell? ⟨w.heap.size, 0, none⟩ = some (.int .i64 0) := blk_cell hxr 0
    have t1 : W1.cell? ⟨w.heap.size, 1, none⟩ = some (.int .u64 0) := blk_cell hxr 1
    have t2 : W1.cell? ⟨w.heap.size, 2, none⟩ = some (.int .i64 0) := blk_cell hxr 2
    have t3 : W1.cell? ⟨w.heap.size, 3, none⟩ = some (.int .i64 0) := blk_cell hxr 3
    have t4 : W1.cell? ⟨w.heap.size, 4, none⟩ = some (.int .i64 0) := blk_cell hxr 4
    have t5 : W1.cell? ⟨w.heap.size, 5, none⟩ = some (.int .i64 0) := blk_cell hxr 5
    have t6 : W1.cell? ⟨w.heap.size, 6, none⟩ = some (.int .u64 0) := blk_cell hxr 6
    have t7 : W1.cell? ⟨w.heap.size, 7, none⟩ = some (.int .i64 0) := blk_cell hxr 7
    have t8 : W1.cell? ⟨w.heap.size, 8, none⟩ = some (.int .i64 0) := blk_cell hxr 8
    have t9 : W1.cell? ⟨w.heap.size, 9, none⟩ = some (.int .i64 0) := blk_cell hxr 9
    have t10 : W1.cell? ⟨w.heap.size, 10, none⟩ = some (.slice none 0 0) := blk_cell hxr 10
    have zt0 := blk_frozen hxr 0
    have zt1 := blk_frozen hxr 1
    have zt2 := blk_frozen hxr 2
    have zt3 := blk_frozen hxr 3
    have zt4 := blk_frozen hxr 4
    have zt5 := blk_frozen hxr 5
    have zt6 := blk_frozen hxr 6
    have zt7 := blk_frozen hxr 7
    have zt8 := blk_frozen hxr 8
    have zt9 := blk_frozen hxr 9
    have zt10 := blk_frozen hxr 10
    clear hxr
    go_wp2
    obtain ⟨W9, hW9⟩ : ∃ W9, W9 = (((((((((((W1.setCell ⟨w.heap.size, 0, none⟩ (.int .i64 0)).setCell ⟨w.heap.size, 1, none⟩ (.int .u64 0)).setCell ⟨w.heap.size, 2, none⟩ (.int .i64 0)).setCell ⟨w.heap.size, 3, none⟩ (.int .i64 0)).setCell ⟨w.heap.size, 4, none⟩ (.int .i64 0)).setCell ⟨w.heap.size, 5, none⟩ (.int .i64 0)).setCell ⟨w.heap.size, 6, none⟩ (.int .u64 0)).setCell ⟨w.heap.size, 7, none⟩ (.int .i64 0)).setCell ⟨w.heap.size, 8, none⟩ (.int .i64 0)).setCell ⟨w.heap.size, 9, none⟩ (.int .i64 0)).setCell ⟨w.heap.size, 10, none⟩ (.slice none 0 0)) := ⟨_, rfl⟩
    rw [← hW9]
    have hr9 : W9.heap[w.heap.size]? = some (.cells (celA cel0 none 0) 30 (0, 0)) := by rw [hW9]; exact putCell_at (x := cel0) (A := none) (c := 0) HD.out.res
    have hb9 : Below w.heap.size w W9 := by rw [hW9]; exact putCell_below (x := cel0) (A := none) (c := 0) HD.out.bel (Nat.le_refl _)
    clear hW9 t0 t1 t2 t3 t4 t5 t6 t7 t8 t9 t10
    have t0 : W9.cell? ⟨w.heap.size, 0, none⟩ = some (.int .i64 0) := blk_cell hr9 0
    have t1 : W9.cell? ⟨w.heap.size, 1, none⟩ = some (.int .u64 0) := blk_cell hr9 1
    have t2 : W9.cell? ⟨w.heap.size, 2, none⟩ = some (.int .i64 0) := blk_cell hr9 2
    have t3 : W9.cell? ⟨w.heap.size, 3, none⟩ = some (.int .i64 0) := blk_cell hr9 3
    have t4 : W9.cell? ⟨w.heap.size, 4, none⟩ = some (.int .i64 0) := blk_cell hr9 4
    have t5 : W9.cell? ⟨w.heap.size, 5, none⟩ = some (.int .i64 0) := blk_cell hr9 5
    have t6 : W9.cell? ⟨w.heap.size, 6, none⟩ = some (.int .u64 0) := blk_cell hr9 6
    have t7 : W9.cell? ⟨w.heap.size, 7, none⟩ = some (.int .i64 0) := blk_cell hr9 7
    have t8 : W9.cell? ⟨w.heap.size, 8, none⟩ = some (.int .i64 0) := blk_cell hr9 8
    have t9 : W9.cell? ⟨w.heap.size, 9, none⟩ = some (.int .i64 0) := blk_cell hr9 9
    have t10 : W9.cell? ⟨w.heap.size, 10, none⟩ = some (.slice none 0 0) := blk_cell hr9 10
    refine bodyPost_ret (v := .tuple #[.agg (celA cel0 none 0), .int .i64 0, .int .i64 14]) (by simp [results, Try.results28, go_sem, cel0, t0, t1, t2, t3, t4, t5, t6, t7, t8, t9, t10]) rfl ?_
    rw [HE.out]
    exact ⟨⟨none, 0, rfl, RdB_nil _⟩, hb9⟩
  obtain ⟨B1, q1, r1⟩ := cutG HR.out HC.out 1 2 1 3 rfl rfl (by omega)
  have R1 := Aside0.mk r1
  have hg1 := gv_range HY.out 1 2
  have GV1 := Aside0.mk (gv_val (b := b) (m := 1) (n := 2) (by omega))
  clear r1 hg1
  obtain ⟨B3, q3, r3⟩ := cutG HR.out HC.out 3 4 3 7 rfl rfl (by omega)
  have R3 := Aside0.mk r3
  have hg3 := gv_range HY.out 3 4
  have GV3 := Aside0.mk (gv_val (b := b) (m := 3) (n := 4) (by omega))
  have i3 : IntKind.i64.wrap (gv b 3 4) = gv b 3 4 := IntWalk.i64_in _ (by omega)
  clear r3 hg3
  obtain ⟨B7, q7, r7⟩ := cutG HR.out HC.out 7 2 7 9 rfl rfl (by omega)
  have R7 := Aside0.mk r7
  have hg7 := gv_range HY.out 7 2
  have GV7 := Aside0.mk (gv_val (b := b) (m := 7) (n := 2) (by omega))
  clear r7 hg7
  have HLEN := Aside0.mk hlt
  have hlt' : ¬ (b.length : Int) < 9 := by omega
  clear hlt
  go_upto_region 18 with (go_at_call 38; go_must (refine (refhas_any (gv b 0 1) _).mono ?_; rintro e w3 ⟨rfl, rfl⟩; rw [hP.out.1, hP.out.2.1, hP.out.2.2.1, hP.out.2.2.2]))
  obtain ⟨W1, hW1⟩ : ∃ W1, W1 = W0.alloc (.cells #[.int .i64 (gv b 0 1), .int .u64 0, .int .i64 0, .int .i64 0, .int .i64 0, .int .i64 0, .int .u64 0, .int .i64 0, .int .i64 0, .int .i64 0, .slice none 0 0] 30) := ⟨_, rfl⟩
  rw [← hW1]
  have HD := Aside0.mk (show RS w W1 W0.heap.size ⟨gv b 0 1, 0, 0, 0, 0, 0, 0, 0, 0, 0, []⟩ none 0 from { cell := (by rw [hW1]; exact blk_new _ _), res := (by rw [hW1]; exact blk_alloc HS0.out.2.1 _), bel := (by rw [hW1]; exact HS0.out.1.alloc (by rw [HS0.out.2.2]; omega) _), ord := (by rw [HS0.out.2.2]; omega) })
  obtain ⟨g5, hg5⟩ : ∃ g, g = W0.heap.size := ⟨_, rfl⟩
  rw [← hg5] at HD ⊢
  clear hW1 hg5 h0'
  have hx5 := HD.out.cell
  obtain ⟨c0, c1, c2, c3, c4, c5, c6, c7, c8, c9⟩ := cel_at (x := ⟨gv b 0 1, 0, 0, 0, 0, 0, 0, 0, 0, 0, []⟩) (A := none) (c := 0) hx5
  have c10 : W1.cell? ⟨g5, 10, none⟩ = some (.slice none 0 0) := blk_cell hx5 10
  (try simp only at c0 c1 c2 c3 c4 c5 c6 c7 c8 c9)
  have z1 := blk_frozen hx5 1
  have z2 := blk_frozen hx5 2
  clear hx5
  go_wp2_with (fail)
  have HD0 := HD
  refine start_ (n := 11) (S := fun w' => True) (ds := []) #[false, false, false, false, false, false, false, false, false, false, false] (by kernel_rfl) rfl rfl trivial (fun hHeld => ?_); refine with_tab tabX18_ok (fun HT_ => ?_)
  have hb : Below W1.heap.size W1 W1.drew := below_drew (Below.refl _ _)
  replace HD := Aside0.mk (HD.out.below hb)
  clear hb
  refine pure_ (i := 0) (N := some 56) (v := ?_) (a' := ?_) #[true, false, false, false, false, false, false, false, false, false, false] rfl rfl (any_of HT_.out (by kernel_rfl)) (fun _ _ _ h => h) (Or.inl ⟨by rfl, ?_⟩) ?_ ?_
  rotate_left
  · intro w'
    go_simp
    with_reducible rfl
  rotate_left
  · simp only [Act.put, List.setIfInBounds_toArray, List.set_cons_zero, List.set_cons_succ]
    rfl
  refine pure_ (i := 1) (N := some 57) (v := ?_) (a' := ?_) #[true, true, false, false, false, false, false, false, false, false, false] rfl rfl (any_of HT_.out (by kernel_rfl)) (fun _ _ _ h => h) (Or.inl ⟨by rfl, ?_⟩) ?_ ?_
  rotate_left
  · intro w'
    go_simp
    with_reducible rfl
  rotate_left
  · simp only [Act.put, List.setIfInBounds_toArray, List.set_cons_zero, List.set_cons_succ]
    rfl
  refine pure_ (i := 3) (N := some 59) (v := ?_) (a' := ?_) #[true, true, false, true, false, false, false, false, false, false, false] rfl rfl (any_of HT_.out (by kernel_rfl)) (fun _ _ _ h => h) (Or.inl ⟨by rfl, ?_⟩) ?_ ?_
  rotate_left
  · intro w'
    go_simp
    with_reducible rfl
  rotate_left
  · simp only [Act.put, List.setIfInBounds_toArray, List.set_cons_zero, List.set_cons_succ]
    rfl
  refine pure_ (i := 4) (N := some 60) (v := ?_) (a' := ?_) #[true, true, false, true, true, false, false, false, false, false, false] rfl rfl (any_of HT_.out (by kernel_rfl)) (fun _ _ _ h => h) (Or.inl ⟨by rfl, ?_⟩) ?_ ?_
  rotate_left
  · intro w'
    go_simp
    with_reducible rfl
  rotate_left
  · simp only [Act.put, List.setIfInBounds_toArray, List.set_cons_zero, List.set_cons_succ]
    rfl
  refine one_ (i := 2) (N := some 58) #[true, true, true, true, true, false, false, false, false, false, false] rfl rfl (one_of HT_.out (by kernel_rfl)) (by decide) (fun Kq_ hK_ => ?_)
  refine goes_ Try.func42 (by kernel_rfl) rfl #[.slice B1 2 (c - 1)] (by rfl) rfl rfl (by (try simp only [List.map_toArray, List.map_cons, List.map_nil]); first | done | rfl) ?_
  with_reducible refine (refget_any B1 2 (c - 1) _ _ (Kd.C_below R1.out HD.out.bel) ((HY.out.drop _).take _) (by decide)).mono ?_
  rintro e w' ⟨rfl, rfl⟩
  refine ⟨_, rfl, ?_⟩
  rw [GV1.out]
  refine hK_.out _ _ trivial (fun hHeld => ?_)
  clear hK_ Kq_
  refine norm_ (a' := ?_) ?_ ?_
  rotate_left
  · show Act.put _ (some 58) _ = _
    simp only [Act.put, List.setIfInBounds_toArray, List.set_cons_zero, List.set_cons_succ]
    rfl
  refine pure_ (i := 7) (N := some 63) (v := ?_) (a' := ?_) #[true, true, true, true, true, false, false, true, false, false, false] rfl rfl (any_of HT_.out (by kernel_rfl)) (fun _ _ _ h => h) (Or.inl ⟨by rfl, ?_⟩) ?_ ?_
  rotate_left
  · intro w'
    go_simp
    with_reducible rfl
  rotate_left
  · simp only [Act.put, List.setIfInBounds_toArray, List.set_cons_zero, List.set_cons_succ]
    rfl
  refine one_ (i := 5) (N := some 61) #[true, true, true, true, true, true, false, true, false, false, false] rfl rfl (one_of HT_.out (by kernel_rfl)) (by decide) (fun Kq_ hK_ => ?_)
  refine goes_ Try.func42 (by kernel_rfl) rfl #[.slice B3 4 (c - 3)] (by rfl) rfl rfl (by (try simp only [List.map_toArray, List.map_cons, List.map_nil]); first | done | rfl) ?_
  with_reducible refine (refget_any B3 4 (c - 3) _ _ (Kd.C_below R3.out HD.out.bel) ((HY.out.drop _).take _) (by decide)).mono ?_
  rintro e w' ⟨rfl, rfl⟩
  refine ⟨_, rfl, ?_⟩
  rw [GV3.out]
  refine hK_.out _ _ trivial (fun hHeld => ?_)
  clear hK_ Kq_
  refine norm_ (a' := ?_) ?_ ?_
  rotate_left
  · show Act.put _ (some 61) _ = _
    simp only [Act.put, List.setIfInBounds_toArray, List.set_cons_zero, List.set_cons_succ]
    rfl
  refine pure_ (i := 6) (N := some 62) (v := ?_) (a' := ?_) #[true, true, true, true, true, true, true, true, false, false, false] rfl rfl (any_of HT_.out (by kernel_rfl)) (fun _ _ _ h => h) (Or.inl ⟨by rfl, ?_⟩) ?_ ?_
  rotate_left
  · intro w'
    go_simp
    with_reducible rfl
  rotate_left
  · simp only [Act.put, List.setIfInBounds_toArray, List.set_cons_zero, List.set_cons_succ]
    rfl
  refine one_ (i := 8) (N := none) #[true, true, true, true, true, true, true, true, true, false, false] rfl rfl (one_of HT_.out (by kernel_rfl)) (by decide) (fun Kq_ hK_ => ?_)
  refine skip_ (w1 := ?_) (by rfl) rfl ?_ ?_
  rotate_left
  · go_simp
    first | done | rfl
  refine hK_.out _ _ trivial (fun hHeld => ?_)
  clear hK_ Kq_
  refine pure_ (i := 9) (N := some 64) (v := ?_) (a' := ?_) #[true, true, true, true, true, true, true, true, true, true, false] rfl rfl (any_of HT_.out (by kernel_rfl)) (fun _ _ _ h => h) (Or.inl ⟨by rfl, ?_⟩) ?_ ?_
  rotate_left
  · intro w'
    go_simp
    with_reducible rfl
  rotate_left
  · simp only [Act.put, List.setIfInBounds_toArray, List.set_cons_zero, List.set_cons_succ]
    rfl
  refine one_ (i := 10) (N := none) #[true, true, true, true, true, true, true, true, true, true, true] rfl rfl (one_of HT_.out (by kernel_rfl)) (by decide) (fun Kq_ hK_ => ?_)
  refine skip_ (w1 := ?_) (by rfl) rfl ?_ ?_
  rotate_left
  · go_simp
    first | done | rfl
  refine hK_.out _ _ trivial (fun hHeld => ?_)
  clear hK_ Kq_
  refine done_ (done_of HT_.out (by kernel_rfl)) ?_
  clear HT_ hHeld
  go_upto_region 24 with (fail)
  obtain ⟨V18, hV18⟩ : ∃ W, W = ((W1.setCell ⟨g5, 1, none⟩ (.int .u64 (gv b 1 2))).setCell ⟨g5, 2, none⟩ (.int .i64 (gv b 3 4))).drew := ⟨_, rfl⟩
  rw [← hV18]
  replace HD := Aside0.mk (show RS w V18 g5 ⟨gv b 0 1, gv b 1 2, gv b 3 4, 0, 0, 0, 0, 0, 0, 0, []⟩ none 0 by rw [hV18]; exact RS.drew_ ((HD0.out.set_ 1 (.int .u64 (gv b 1 2)) (x' := ⟨gv b 0 1, gv b 1 2, 0, 0, 0, 0, 0, 0, 0, 0, []⟩) (A' := none) (c' := 0) rfl).set_ 2 (.int .i64 (gv b 3 4)) (x' := ⟨gv b 0 1, gv b 1 2, gv b 3 4, 0, 0, 0, 0, 0, 0, 0, []⟩) (A' := none) (c' := 0) rfl))
  clear hV18 c0 c1 c2 c3 c4 c5 c6 c7 c8 c9 c10 z1 z2
  have hx5 := HD.out.cell
  obtain ⟨c0, c1, c2, c3, c4, c5, c6, c7, c8, c9⟩ := cel_at (x := ⟨gv b 0 1, gv b 1 2, gv b 3 4, 0, 0, 0, 0, 0, 0, 0, []⟩) (A := none) (c := 0) hx5
  have c10 : V18.cell? ⟨g5, 10, none⟩ = some (.slice none 0 0) := blk_cell hx5 10
  (try simp only at c0 c1 c2 c3 c4 c5 c6 c7 c8 c9)
  have z6 := blk_frozen hx5 6
  clear hx5
  go_upto_region 36 with (go_at_call 42; go_must (refine (refget_any B7 2 (c - 7) _ _ (Kd.C_below R7.out HD.out.bel) ((HY.out.drop _).take _) (by decide)).mono ?_; rintro e w' ⟨rfl, rfl⟩; rw [GV7.out]))
  obtain ⟨V24, hV24⟩ : ∃ W, W = (V18.setCell ⟨g5, 6, none⟩ (.int .u64 (gv b 7 2))) := ⟨_, rfl⟩
  rw [← hV24]
  replace HD := Aside0.mk (show RS w V24 g5 ⟨gv b 0 1, gv b 1 2, gv b 3 4, 0, 0, 0, gv b 7 2, 0, 0, 0, []⟩ none 0 by rw [hV24]; exact (HD.out.set_ 6 (.int .u64 (gv b 7 2)) (x' := ⟨gv b 0 1, gv b 1 2, gv b 3 4, 0, 0, 0, gv b 7 2, 0, 0, 0, []⟩) (A' := none) (c' := 0) rfl))
  clear hV24 c0 c1 c2 c3 c4 c5 c6 c7 c8 c9 c10 z6
  have HL2 := HLEN
  replace HD := Aside0.mk (show RS w V24 g5 x9 none 0 by rw [hx9.out]; exact HD.out)
  have HRX := Aside0.mk (show RdN v none x9.body.length x9.body by rw [hx9.out]; exact RdB_nil _)
  have hx5 := HD.out.cell
  obtain ⟨c0, c1, c2, c3, c4, c5, c6, c7, c8, c9⟩ := cel_at (x := x9) (A := none) (c := 0) hx5
  have c10 : V24.cell? ⟨g5, 10, none⟩ = some (.slice none x9.body.length 0) := blk_cell hx5 10
  (try simp only at c0 c1 c2 c3 c4 c5 c6 c7 c8 c9)
  clear hx5
  have hxr := HD.out.res
  have t0 : V24.cell? ⟨w.heap.size, 0, none⟩ = some (.int .i64 0) := blk_cell hxr 0
  have t1 : V24.cell? ⟨w.heap.size, 1, none⟩ = some (.int .u64 0) := blk_cell hxr 1
  have t2 : V24.cell? ⟨w.heap.size, 2, none⟩ = some (.int .i64 0) := blk_cell hxr 2
  have t3 : V24.cell? ⟨w.heap.size, 3, none⟩ = some (.int .i64 0) := blk_cell hxr 3
  have t4 : V24.cell? ⟨w.heap.size, 4, none⟩ = some (.int .i64 0) := blk_cell hxr 4
  have t5 : V24.cell? ⟨w.heap.size, 5, none⟩ = some (.int .i64 0) := blk_cell hxr 5
  have t6 : V24.cell? ⟨w.heap.size, 6, none⟩ = some (.int .u64 0) := blk_cell hxr 6
  have t7 : V24.cell? ⟨w.heap.size, 7, none⟩ = some (.int .i64 0) := blk_cell hxr 7
  have t8 : V24.cell? ⟨w.heap.size, 8, none⟩ = some (.int .i64 0) := blk_cell hxr 8
  have t9 : V24.cell? ⟨w.heap.size, 9, none⟩ = some (.int .i64 0) := blk_cell hxr 9
  have t10 : V24.cell? ⟨w.heap.size, 10, none⟩ = some (.slice none 0 0) := blk_cell hxr 10
  have zt0 := blk_frozen hxr 0
  have zt1 := blk_frozen hxr 1
  have zt2 := blk_frozen hxr 2
  have zt3 := blk_frozen hxr 3
  have zt4 := blk_frozen hxr 4
  have zt5 := blk_frozen hxr 5
  have zt6 := blk_frozen hxr 6
  have zt7 := blk_frozen hxr 7
  have zt8 := blk_frozen hxr 8
  have zt9 := blk_frozen hxr 9
  have zt10 := blk_frozen hxr 10
  clear hxr
  cases hq : rightB x9 with
  | false =>
    have HE := Aside0.mk (show res = (cel0, 0, 3) by rw [hres.out, if_neg HL2.out, if_neg (by rw [hq]; simp)])
    go_wp2_with (go_at_call 10; go_must (refine (refright_any x9 none 0 _ (Kd.C_below (Kd.C_below HRX.out HVW.out) HD.out.bel) hwf.out.2.2).mono ?_; rintro e y9 ⟨rfl, hb⟩; rw [hq]; replace HD := Aside0.mk (HD.out.below hb); clear c0 c1 c2 c3 c4 c5 c6 c7 c8 c9 c10 t0 zt0 t1 zt1 t2 zt2 t3 zt3 t4 zt4 t5 zt5 t6 zt6 t7 zt7 t8 zt8 t9 zt9 t10 zt10; have hx5 := HD.out.cell; obtain ⟨c0, c1, c2, c3, c4, c5, c6, c7, c8, c9⟩ := cel_at (x := x9) (A := none) (c := 0) hx5; have c10 : y9.cell? ⟨g5, 10, none⟩ = some (.slice none x9.body.length 0) := blk_cell hx5 10; (try simp only at c0 c1 c2 c3 c4 c5 c6 c7 c8 c9); clear hx5; have hxr := HD.out.res; have t0 : y9.cell? ⟨w.heap.size, 0, none⟩ = some (.int .i64 0) := blk_cell hxr 0; have t1 : y9.cell? ⟨w.heap.size, 1, none⟩ = some (.int .u64 0) := blk_cell hxr 1; have t2 : y9.cell? ⟨w.heap.size, 2, none⟩ = some (.int .i64 0) := blk_cell hxr 2; have t3 : y9.cell? ⟨w.heap.size, 3, none⟩ = some (.int .i64 0) := blk_cell hxr 3; have t4 : y9.cell? ⟨w.heap.size, 4, none⟩ = some (.int .i64 0) := blk_cell hxr 4; have t5 : y9.cell? ⟨w.heap.size, 5, none⟩ = some (.int .i64 0) := blk_cell hxr 5; have t6 : y9.cell? ⟨w.heap.size, 6, none⟩ = some (.int .u64 0) := blk_cell hxr 6; have t7 : y9.cell? ⟨w.heap.size, 7, none⟩ = some (.int .i64 0) := blk_cell hxr 7; have t8 : y9.cell? ⟨w.heap.size, 8, none⟩ = some (.int .i64 0) := blk_cell hxr 8; have t9 : y9.cell? ⟨w.heap.size, 9, none⟩ = some (.int .i64 0) := blk_cell hxr 9; have t10 : y9.cell? ⟨w.heap.size, 10, none⟩ = some (.slice none 0 0) := blk_cell hxr 10; have zt0 := blk_frozen hxr 0; have zt1 := blk_frozen hxr 1; have zt2 := blk_frozen hxr 2; have zt3 := blk_frozen hxr 3; have zt4 := blk_frozen hxr 4; have zt5 := blk_frozen hxr 5; have zt6 := blk_frozen hxr 6; have zt7 := blk_frozen hxr 7; have zt8 := blk_frozen hxr 8; have zt9 := blk_frozen hxr 9; have zt10 := blk_frozen hxr 10; clear hxr; clear hb))
    obtain ⟨W9, hW9⟩ : ∃ W9, W9 = (((((((((((y9.setCell ⟨w.heap.size, 0, none⟩ (.int .i64 0)).setCell ⟨w.heap.size, 1, none⟩ (.int .u64 0)).setCell ⟨w.heap.size, 2, none⟩ (.int .i64 0)).setCell ⟨w.heap.size, 3, none⟩ (.int .i64 0)).setCell ⟨w.heap.size, 4, none⟩ (.int .i64 0)).setCell ⟨w.heap.size, 5, none⟩ (.int .i64 0)).setCell ⟨w.heap.size, 6, none⟩ (.int .u64 0)).setCell ⟨w.heap.size, 7, none⟩ (.int .i64 0)).setCell ⟨w.heap.size, 8, none⟩ (.int .i64 0)).setCell ⟨w.heap.size, 9, none⟩ (.int .i64 0)).setCell ⟨w.heap.size, 10, none⟩ (.slice none 0 0)) := ⟨_, rfl⟩
    rw [← hW9]
    have hr9 : W9.heap[w.heap.size]? = some (.cells (celA cel0 none 0) 30 (0, 0)) := by rw [hW9]; exact putCell_at (x := cel0) (A := none) (c := 0) HD.out.res
    have hb9 : Below w.heap.size w W9 := by rw [hW9]; exact putCell_below (x := cel0) (A := none) (c := 0) HD.out.bel (Nat.le_refl _)
    clear hW9 t0 t1 t2 t3 t4 t5 t6 t7 t8 t9 t10
    have t0 : W9.cell? ⟨w.heap.size, 0, none⟩ = some (.int .i64 0) := blk_cell hr9 0
    have t1 : W9.cell? ⟨w.heap.size, 1, none⟩ = some (.int .u64 0) := blk_cell hr9 1
    have t2 : W9.cell? ⟨w.heap.size, 2, none⟩ = some (.int .i64 0) := blk_cell hr9 2
    have t3 : W9.cell? ⟨w.heap.size, 3, none⟩ = some (.int .i64 0) := blk_cell hr9 3
    have t4 : W9.cell? ⟨w.heap.size, 4, none⟩ = some (.int .i64 0) := blk_cell hr9 4
    have t5 : W9.cell? ⟨w.heap.size, 5, none⟩ = some (.int .i64 0) := blk_cell hr9 5
    have t6 : W9.cell? ⟨w.heap.size, 6, none⟩ = some (.int .u64 0) := blk_cell hr9 6
    have t7 : W9.cell? ⟨w.heap.size, 7, none⟩ = some (.int .i64 0) := blk_cell hr9 7
    have t8 : W9.cell? ⟨w.heap.size, 8, none⟩ = some (.int .i64 0) := blk_cell hr9 8
    have t9 : W9.cell? ⟨w.heap.size, 9, none⟩ = some (.int .i64 0) := blk_cell hr9 9
    have t10 : W9.cell? ⟨w.heap.size, 10, none⟩ = some (.slice none 0 0) := blk_cell hr9 10
    refine bodyPost_ret (v := .tuple #[.agg (celA cel0 none 0), .int .i64 0, .int .i64 3]) (by simp [results, Try.results28, go_sem, cel0, t0, t1, t2, t3, t4, t5, t6, t7, t8, t9, t10]) rfl ?_
    rw [HE.out]
    exact ⟨⟨none, 0, rfl, RdB_nil _⟩, hb9⟩
  | true =>
    have HE := Aside0.mk (show res = (x9, ((9 : Nat) : Int), 0) by rw [hres.out, if_neg HL2.out, if_pos hq])
    go_wp2_with (go_at_call 10; go_must (refine (refright_any x9 none 0 _ (Kd.C_below (Kd.C_below HRX.out HVW.out) HD.out.bel) hwf.out.2.2).mono ?_; rintro e y9 ⟨rfl, hb⟩; rw [hq]; replace HD := Aside0.mk (HD.out.below hb); clear c0 c1 c2 c3 c4 c5 c6 c7 c8 c9 c10 t0 zt0 t1 zt1 t2 zt2 t3 zt3 t4 zt4 t5 zt5 t6 zt6 t7 zt7 t8 zt8 t9 zt9 t10 zt10; have hx5 := HD.out.cell; obtain ⟨c0, c1, c2, c3, c4, c5, c6, c7, c8, c9⟩ := cel_at (x := x9) (A := none) (c := 0) hx5; have c10 : y9.cell? ⟨g5, 10, none⟩ = some (.slice none x9.body.length 0) := blk_cell hx5 10; (try simp only at c0 c1 c2 c3 c4 c5 c6 c7 c8 c9); clear hx5; have hxr := HD.out.res; have t0 : y9.cell? ⟨w.heap.size, 0, none⟩ = some (.int .i64 0) := blk_cell hxr 0; have t1 : y9.cell? ⟨w.heap.size, 1, none⟩ = some (.int .u64 0) := blk_cell hxr 1; have t2 : y9.cell? ⟨w.heap.size, 2, none⟩ = some (.int .i64 0) := blk_cell hxr 2; have t3 : y9.cell? ⟨w.heap.size, 3, none⟩ = some (.int .i64 0) := blk_cell hxr 3; have t4 : y9.cell? ⟨w.heap.size, 4, none⟩ = some (.int .i64 0) := blk_cell hxr 4; have t5 : y9.cell? ⟨w.heap.size, 5, none⟩ = some (.int .i64 0) := blk_cell hxr 5; have t6 : y9.cell? ⟨w.heap.size, 6, none⟩ = some (.int .u64 0) := blk_cell hxr 6; have t7 : y9.cell? ⟨w.heap.size, 7, none⟩ = some (.int .i64 0) := blk_cell hxr 7; have t8 : y9.cell? ⟨w.heap.size, 8, none⟩ = some (.int .i64 0) := blk_cell hxr 8; have t9 : y9.cell? ⟨w.heap.size, 9, none⟩ = some (.int .i64 0) := blk_cell hxr 9; have t10 : y9.cell? ⟨w.heap.size, 10, none⟩ = some (.slice none 0 0) := blk_cell hxr 10; have zt0 := blk_frozen hxr 0; have zt1 := blk_frozen hxr 1; have zt2 := blk_frozen hxr 2; have zt3 := blk_frozen hxr 3; have zt4 := blk_frozen hxr 4; have zt5 := blk_frozen hxr 5; have zt6 := blk_frozen hxr 6; have zt7 := blk_frozen hxr 7; have zt8 := blk_frozen hxr 8; have zt9 := blk_frozen hxr 9; have zt10 := blk_frozen hxr 10; clear hxr; clear hb))
    obtain ⟨W9, hW9⟩ : ∃ W9, W9 = (((((((((((y9.setCell ⟨w.heap.size, 0, none⟩ (.int .i64 x9.kind)).setCell ⟨w.heap.size, 1, none⟩ (.int .u64 x9.num)).setCell ⟨w.heap.size, 2, none⟩ (.int .i64 x9.min)).setCell ⟨w.heap.size, 3, none⟩ (.int .i64 x9.br)).setCell ⟨w.heap.size, 4, none⟩ (.int .i64 x9.vol)).setCell ⟨w.heap.size, 5, none⟩ (.int .i64 x9.blk)).setCell ⟨w.heap.size, 6, none⟩ (.int .u64 x9.ref)).setCell ⟨w.heap.size, 7, none⟩ (.int .i64 x9.fr)).setCell ⟨w.heap.size, 8, none⟩ (.int .i64 x9.to)).setCell ⟨w.heap.size, 9, none⟩ (.int .i64 x9.un)).setCell ⟨w.heap.size, 10, none⟩ (.slice none x9.body.length 0)) := ⟨_, rfl⟩
    rw [← hW9]
    have hr9 : W9.heap[w.heap.size]? = some (.cells (celA x9 none 0) 30 (0, 0)) := by rw [hW9]; exact putCell_at (x := x9) (A := none) (c := 0) HD.out.res
    have hb9 : Below w.heap.size w W9 := by rw [hW9]; exact putCell_below (x := x9) (A := none) (c := 0) HD.out.bel (Nat.le_refl _)
    clear hW9 t0 t1 t2 t3 t4 t5 t6 t7 t8 t9 t10
    have t0 : W9.cell? ⟨w.heap.size, 0, none⟩ = some (.int .i64 x9.kind) := blk_cell hr9 0
    have t1 : W9.cell? ⟨w.heap.size, 1, none⟩ = some (.int .u64 x9.num) := blk_cell hr9 1
    have t2 : W9.cell? ⟨w.heap.size, 2, none⟩ = some (.int .i64 x9.min) := blk_cell hr9 2
    have t3 : W9.cell? ⟨w.heap.size, 3, none⟩ = some (.int .i64 x9.br) := blk_cell hr9 3
    have t4 : W9.cell? ⟨w.heap.size, 4, none⟩ = some (.int .i64 x9.vol) := blk_cell hr9 4
    have t5 : W9.cell? ⟨w.heap.size, 5, none⟩ = some (.int .i64 x9.blk) := blk_cell hr9 5
    have t6 : W9.cell? ⟨w.heap.size, 6, none⟩ = some (.int .u64 x9.ref) := blk_cell hr9 6
    have t7 : W9.cell? ⟨w.heap.size, 7, none⟩ = some (.int .i64 x9.fr) := blk_cell hr9 7
    have t8 : W9.cell? ⟨w.heap.size, 8, none⟩ = some (.int .i64 x9.to) := blk_cell hr9 8
    have t9 : W9.cell? ⟨w.heap.size, 9, none⟩ = some (.int .i64 x9.un) := blk_cell hr9 9
    have t10 : W9.cell? ⟨w.heap.size, 10, none⟩ = some (.slice none x9.body.length 0) := blk_cell hr9 10
    refine bodyPost_ret (v := .tuple #[.agg (celA x9 none 0), .int .i64 ((9 : Nat) : Int), .int .i64 0]) (by simp [results, Try.results28, go_sem, t0, t1, t2, t3, t4, t5, t6, t7, t8, t9, t10]) rfl ?_
    rw [HE.out]
    exact ⟨⟨none, 0, rfl, HRX.out⟩, hb9⟩
set_option maxHeartbeats 6400000 in
set_option maxRecDepth 100000 in
theorem refdec_n (A : Option Addr) (c : Nat) (b : List Int) (v w : World) (hv : Below v.heap.size v w) (hr : RdB v A b) (hc : b.length ≤ c) (hy : Byt b) (hl1000 : b.length ≤ 1000) (h00 : b.length ≠ 0) (hP : Aside0 (hasPlace (gv b 0 1) = false ∧ hasRef (gv b 0 1) = false ∧ hasMin (gv b 0 1) = false ∧ hasBody (gv b 0 1) = false)) (hk1 : decide (gv b 0 1 < 1) = false) (hk8 : decide (8 < gv b 0 1) = false) (nb : Nat) (hnb : Aside0 (nb = 0))
    (x9 : Cel) (hx9 : Aside0 (x9 = ⟨gv b 0 1, gv b 1 2, gv b 3 4, 0, 0, 0, 0, 0, 0, 0, []⟩)) (hwf : Aside0 (CelWf x9)) (res : Cel × Int × Int)
    (hres : Aside0 (res = if b.length < 7 then (cel0, 0, 14) else if rightB x9 then (x9, ((7 : Nat) : Int), 0) else (cel0, 0, 3))) :
    Calls Try.prog 28 #[.slice A b.length c] w fun e w' => RDecdV v w w' e res := by
  have hmx := C_max hr
  have HVW := Aside0.mk hv
  have HRV := Aside0.mk hr
  replace hr := Kd.C_below hr hv
  have HR := Aside0.mk hr
  have HY := Aside0.mk hy
  have HC := Aside0.mk hc
  obtain ⟨ad, rfl, h0⟩ := cell_in hr 0 (by omega)
  rw [add_0] at h0
  have hg0 := gv_range hy 0 1
  have e0 : IntKind.i64.wrap (gv b 0 1) = gv b 0 1 := IntWalk.i64_in _ (by omega)
  clear hr hy hc hg0 hv
  have hb0 : (b.length : Int) ≠ 0 := by omega
  have fb0 : ((b.length : Int) == 0) = false := beq_eq_false_iff_ne.2 hb0
  have hbi : (0 : Int) < (b.length : Int) := by omega
  go_enter Try.func28, Try.ntmps28
  go_upto_region 3 with (fail)
  obtain ⟨W0, hW0⟩ : ∃ W0, W0 = w.alloc (.cells #[.int .i64 0, .int .u64 0, .int .i64 0, .int .i64 0, .int .i64 0, .int .i64 0, .int .u64 0, .int .i64 0, .int .i64 0, .int .i64 0, .slice none 0 0] 30) := ⟨_, rfl⟩
  rw [← hW0]
  have hb1 : Below w.heap.size w W0 := by rw [hW0]; exact below_alloc (Below.refl _ _) _
  have hres0 : W0.heap[w.heap.size]? = some (.cells (celA cel0 none 0) 30 (0, 0)) := by rw [hW0]; exact blk_new _ _
  have h0' := pw_cell_below hb1 h0
  have hsz : W0.heap.size = w.heap.size + 1 := by rw [hW0]; simp
  have HS0 := Aside0.mk (And.intro hb1 (And.intro hres0 hsz))
  clear hW0 hb1 hres0 h0 hsz
  by_cases hlt : b.length < 7
  · have HE := Aside0.mk (show res = (cel0, 0, 14) by rw [hres.out, if_pos (by omega)])
    go_upto_region 17 with (go_at_call 38; go_must (refine (refhas_any (gv b 0 1) _).mono ?_; rintro e w3 ⟨rfl, rfl⟩; rw [hP.out.1, hP.out.2.1, hP.out.2.2.1, hP.out.2.2.2]))
    obtain ⟨W1, hW1⟩ : ∃ W1, W1 = W0.alloc (.cells #[.int .i64 (gv b 0 1), .int .u64 0, .int .i64 0, .int .i64 0, .int .i64 0, .int .i64 0, .int .u64 0, .int .i64 0, .int .i64 0, .int .i64 0, .slice none 0 0] 30) := ⟨_, rfl⟩
    rw [← hW1]
    have HD := Aside0.mk (show RS w W1 W0.heap.size ⟨gv b 0 1, 0, 0, 0, 0, 0, 0, 0, 0, 0, []⟩ none 0 from { cell := (by rw [hW1]; exact blk_new _ _), res := (by rw [hW1]; exact blk_alloc HS0.out.2.1 _), bel := (by rw [hW1]; exact HS0.out.1.alloc (by rw [HS0.out.2.2]; omega) _), ord := (by rw [HS0.out.2.2]; omega) })
    obtain ⟨g5, hg5⟩ : ∃ g, g = W0.heap.size := ⟨_, rfl⟩
    rw [← hg5] at HD ⊢
    clear hW1 hg5 h0'
    have hxr := HD.out.res
    have t0 : W1.cell? ⟨w.heap.size, 0, none⟩ = some (.int .i64 0) := blk_cell hxr 0
    have t1 : W1.cell? ⟨w.heap.size, 1, none⟩ = some (.int .u64 0) := blk_cell hxr 1
    have t2 : W1.cell? ⟨w.heap.size, 2, none⟩ = some (.int .i64 0) := blk_cell hxr 2
    have t3 : W1.cell? ⟨w.heap.size, 3, none⟩ = some (.int .i64 0) := blk_cell hxr 3
    have t4 : W1.cell? ⟨w.heap.size, 4, none⟩ = some (.int .i64 0) := blk_cell hxr 4
    have t5 : W1.cell? ⟨w.heap.size, 5, none⟩ = some (.int .i64 0) := blk_cell hxr 5
    have t6 : W1.cell? ⟨w.heap.size, 6, none⟩ = some (.int .u64 0) := blk_cell hxr 6
    have t7 : W1.cell? ⟨w.heap.size, 7, none⟩ = some (.int .i64 0) := blk_cell hxr 7
    have t8 : W1.cell? ⟨w.heap.size, 8, none⟩ = some (.int .i64 0) := blk_cell hxr 8
    have t9 : W1.cell? ⟨w.heap.size, 9, none⟩ = some (.int .i64 0) := blk_cell hxr 9
    have t10 : W1.cell? ⟨w.heap.size, 10, none⟩ = some (.slice none 0 0) := blk_cell hxr 10
    have zt0 := blk_frozen hxr 0
    have zt1 := blk_frozen hxr 1
    have zt2 := blk_frozen hxr 2
    have zt3 := blk_frozen hxr 3
    have zt4 := blk_frozen hxr 4
    have zt5 := blk_frozen hxr 5
    have zt6 := blk_frozen hxr 6
    have zt7 := blk_frozen hxr 7
    have zt8 := blk_frozen hxr 8
    have zt9 := blk_frozen hxr 9
    have zt10 := blk_frozen hxr 10
    clear hxr
    go_wp2
    obtain ⟨W9, hW9⟩ : ∃ W9, W9 = (((((((((((W1.setCell ⟨w.heap.size, 0, none⟩ (.int .i64 0)).setCell ⟨w.heap.size, 1, none⟩ (.int .u64 0)).setCell ⟨w.heap.size, 2, none⟩ (.int .i64 0)).setCell ⟨w.heap.size, 3, none⟩ (.int .i64 0)).setCell ⟨w.heap.size, 4, none⟩ (.int .i64 0)).setCell ⟨w.heap.size, 5, none⟩ (.int .i64 0)).setCell ⟨w.heap.size, 6, none⟩ (.int .u64 0)).setCell ⟨w.heap.size, 7, none⟩ (.int .i64 0)).setCell ⟨w.heap.size, 8, none⟩ (.int .i64 0)).setCell ⟨w.heap.size, 9, none⟩ (.int .i64 0)).setCell ⟨w.heap.size, 10, none⟩ (.slice none 0 0)) := ⟨_, rfl⟩
    rw [← hW9]
    have hr9 : W9.heap[w.heap.size]? = some (.cells (celA cel0 none 0) 30 (0, 0)) := by rw [hW9]; exact putCell_at (x := cel0) (A := none) (c := 0) HD.out.res
    have hb9 : Below w.heap.size w W9 := by rw [hW9]; exact putCell_below (x := cel0) (A := none) (c := 0) HD.out.bel (Nat.le_refl _)
    clear hW9 t0 t1 t2 t3 t4 t5 t6 t7 t8 t9 t10
    have t0 : W9.cell? ⟨w.heap.size, 0, none⟩ = some (.int .i64 0) := blk_cell hr9 0
    have t1 : W9.cell? ⟨w.heap.size, 1, none⟩ = some (.int .u64 0) := blk_cell hr9 1
    have t2 : W9.cell? ⟨w.heap.size, 2, none⟩ = some (.int .i64 0) := blk_cell hr9 2
    have t3 : W9.cell? ⟨w.heap.size, 3, none⟩ = some (.int .i64 0) := blk_cell hr9 3
    have t4 : W9.cell? ⟨w.heap.size, 4, none⟩ = some (.int .i64 0) := blk_cell hr9 4
    have t5 : W9.cell? ⟨w.heap.size, 5, none⟩ = some (.int .i64 0) := blk_cell hr9 5
    have t6 : W9.cell? ⟨w.heap.size, 6, none⟩ = some (.int .u64 0) := blk_cell hr9 6
    have t7 : W9.cell? ⟨w.heap.size, 7, none⟩ = some (.int .i64 0) := blk_cell hr9 7
    have t8 : W9.cell? ⟨w.heap.size, 8, none⟩ = some (.int .i64 0) := blk_cell hr9 8
    have t9 : W9.cell? ⟨w.heap.size, 9, none⟩ = some (.int .i64 0) := blk_cell hr9 9
    have t10 : W9.cell? ⟨w.heap.size, 10, none⟩ = some (.slice none 0 0) := blk_cell hr9 10
    refine bodyPost_ret (v := .tuple #[.agg (celA cel0 none 0), .int .i64 0, .int .i64 14]) (by simp [results, Try.results28, go_sem, cel0, t0, t1, t2, t3, t4, t5, t6, t7, t8, t9, t10]) rfl ?_
    rw [HE.out]
    exact ⟨⟨none, 0, rfl, RdB_nil _⟩, hb9⟩
  obtain ⟨B1, q1, r1⟩ := cutG HR.out HC.out 1 2 1 3 rfl rfl (by omega)
  have R1 := Aside0.mk r1
  have hg1 := gv_range HY.out 1 2
  have GV1 := Aside0.mk (gv_val (b := b) (m := 1) (n := 2) (by omega))
  clear r1 hg1
  obtain ⟨B3, q3, r3⟩ := cutG HR.out HC.out 3 4 3 7 rfl rfl (by omega)
  have R3 := Aside0.mk r3
  have hg3 := gv_range HY.out 3 4
  have GV3 := Aside0.mk (gv_val (b := b) (m := 3) (n := 4) (by omega))
  have i3 : IntKind.i64.wrap (gv b 3 4) = gv b 3 4 := IntWalk.i64_in _ (by omega)
  clear r3 hg3
  have HLEN := Aside0.mk hlt
  have hlt' : ¬ (b.length : Int) < 7 := by omega
  clear hlt
  go_upto_region 18 with (go_at_call 38; go_must (refine (refhas_any (gv b 0 1) _).mono ?_; rintro e w3 ⟨rfl, rfl⟩; rw [hP.out.1, hP.out.2.1, hP.out.2.2.1, hP.out.2.2.2]))
  obtain ⟨W1, hW1⟩ : ∃ W1, W1 = W0.alloc (.cells #[.int .i64 (gv b 0 1), .int .u64 0, .int .i64 0, .int .i64 0, .int .i64 0, .int .i64 0, .int .u64 0, .int .i64 0, .int .i64 0, .int .i64 0, .slice none 0 0] 30) := ⟨_, rfl⟩
  rw [← hW1]
  have HD := Aside0.mk (show RS w W1 W0.heap.size ⟨gv b 0 1, 0, 0, 0, 0, 0, 0, 0, 0, 0, []⟩ none 0 from { cell := (by rw [hW1]; exact blk_new _ _), res := (by rw [hW1]; exact blk_alloc HS0.out.2.1 _), bel := (by rw [hW1]; exact HS0.out.1.alloc (by rw [HS0.out.2.2]; omega) _), ord := (by rw [HS0.out.2.2]; omega) })
  obtain ⟨g5, hg5⟩ : ∃ g, g = W0.heap.size := ⟨_, rfl⟩
  rw [← hg5] at HD ⊢
  clear hW1 hg5 h0'
  have hx5 := HD.out.cell
  obtain ⟨c0, c1, c2, c3, c4, c5, c6, c7, c8, c9⟩ := cel_at (x := ⟨gv b 0 1, 0, 0, 0, 0, 0, 0, 0, 0, 0, []⟩) (A := none) (c := 0) hx5
  have c10 : W1.cell? ⟨g5, 10, none⟩ = some (.slice none 0 0) := blk_cell hx5 10
  (try simp only at c0 c1 c2 c3 c4 c5 c6 c7 c8 c9)
  have z1 := blk_frozen hx5 1
  have z2 := blk_frozen hx5 2
  clear hx5
  go_wp2_with (fail)
  have HD0 := HD
  refine start_ (n := 11) (S := fun w' => True) (ds := []) #[false, false, false, false, false, false, false, false, false, false, false] (by kernel_rfl) rfl rfl trivial (fun hHeld => ?_); refine with_tab tabX18_ok (fun HT_ => ?_)
  have hb : Below W1.heap.size W1 W1.drew := below_drew (Below.refl _ _)
  replace HD := Aside0.mk (HD.out.below hb)
  clear hb
  refine pure_ (i := 0) (N := some 56) (v := ?_) (a' := ?_) #[true, false, false, false, false, false, false, false, false, false, false] rfl rfl (any_of HT_.out (by kernel_rfl)) (fun _ _ _ h => h) (Or.inl ⟨by rfl, ?_⟩) ?_ ?_
  rotate_left
  · intro w'
    go_simp
    with_reducible rfl
  rotate_left
  · simp only [Act.put, List.setIfInBounds_toArray, List.set_cons_zero, List.set_cons_succ]
    rfl
  refine pure_ (i := 1) (N := some 57) (v := ?_) (a' := ?_) #[true, true, false, false, false, false, false, false, false, false, false] rfl rfl (any_of HT_.out (by kernel_rfl)) (fun _ _ _ h => h) (Or.inl ⟨by rfl, ?_⟩) ?_ ?_
  rotate_left
  · intro w'
    go_simp
    with_reducible rfl
  rotate_left
  · simp only [Act.put, List.setIfInBounds_toArray, List.set_cons_zero, List.set_cons_succ]
    rfl
  refine pure_ (i := 3) (N := some 59) (v := ?_) (a' := ?_) #[true, true, false, true, false, false, false, false, false, false, false] rfl rfl (any_of HT_.out (by kernel_rfl)) (fun _ _ _ h => h) (Or.inl ⟨by rfl, ?_⟩) ?_ ?_
  rotate_left
  · intro w'
    go_simp
    with_reducible rfl
  rotate_left
  · simp only [Act.put, List.setIfInBounds_toArray, List.set_cons_zero, List.set_cons_succ]
    rfl
  refine pure_ (i := 4) (N := some 60) (v := ?_) (a' := ?_) #[true, true, false, true, true, false, false, false, false, false, false] rfl rfl (any_of HT_.out (by kernel_rfl)) (fun _ _ _ h => h) (Or.inl ⟨by rfl, ?_⟩) ?_ ?_
  rotate_left
  · intro w'
    go_simp
    with_reducible rfl
  rotate_left
  · simp only [Act.put, List.setIfInBounds_toArray, List.set_cons_zero, List.set_cons_succ]
    rfl
  refine one_ (i := 2) (N := some 58) #[true, true, true, true, true, false, false, false, false, false, false] rfl rfl (one_of HT_.out (by kernel_rfl)) (by decide) (fun Kq_ hK_ => ?_)
  refine goes_ Try.func42 (by kernel_rfl) rfl #[.slice B1 2 (c - 1)] (by rfl) rfl rfl (by (try simp only [List.map_toArray, List.map_cons, List.map_nil]); first | done | rfl) ?_
  with_reducible refine (refget_any B1 2 (c - 1) _ _ (Kd.C_below R1.out HD.out.bel) ((HY.out.drop _).take _) (by decide)).mono ?_
  rintro e w' ⟨rfl, rfl⟩
  refine ⟨_, rfl, ?_⟩
  rw [GV1.out]
  refine hK_.out _ _ trivial (fun hHeld => ?_)
  clear hK_ Kq_
  refine norm_ (a' := ?_) ?_ ?_
  rotate_left
  · show Act.put _ (some 58) _ = _
    simp only [Act.put, List.setIfInBounds_toArray, List.set_cons_zero, List.set_cons_succ]
    rfl
  refine pure_ (i := 7) (N := some 63) (v := ?_) (a' := ?_) #[true, true, true, true, true, false, false, true, false, false, false] rfl rfl (any_of HT_.out (by kernel_rfl)) (fun _ _ _ h => h) (Or.inl ⟨by rfl, ?_⟩) ?_ ?_
  rotate_left
  · intro w'
    go_simp
    with_reducible rfl
  rotate_left
  · simp only [Act.put, List.setIfInBounds_toArray, List.set_cons_zero, List.set_cons_succ]
    rfl
  refine one_ (i := 5) (N := some 61) #[true, true, true, true, true, true, false, true, false, false, false] rfl rfl (one_of HT_.out (by kernel_rfl)) (by decide) (fun Kq_ hK_ => ?_)
  refine goes_ Try.func42 (by kernel_rfl) rfl #[.slice B3 4 (c - 3)] (by rfl) rfl rfl (by (try simp only [List.map_toArray, List.map_cons, List.map_nil]); first | done | rfl) ?_
  with_reducible refine (refget_any B3 4 (c - 3) _ _ (Kd.C_below R3.out HD.out.bel) ((HY.out.drop _).take _) (by decide)).mono ?_
  rintro e w' ⟨rfl, rfl⟩
  refine ⟨_, rfl, ?_⟩
  rw [GV3.out]
  refine hK_.out _ _ trivial (fun hHeld => ?_)
  clear hK_ Kq_
  refine norm_ (a' := ?_) ?_ ?_
  rotate_left
  · show Act.put _ (some 61) _ = _
    simp only [Act.put, List.setIfInBounds_toArray, List.set_cons_zero, List.set_cons_succ]
    rfl
  refine pure_ (i := 6) (N := some 62) (v := ?_) (a' := ?_) #[true, true, true, true, true, true, true, true, false, false, false] rfl rfl (any_of HT_.out (by kernel_rfl)) (fun _ _ _ h => h) (Or.inl ⟨by rfl, ?_⟩) ?_ ?_
  rotate_left
  · intro w'
    go_simp
    with_reducible rfl
  rotate_left
  · simp only [Act.put, List.setIfInBounds_toArray, List.set_cons_zero, List.set_cons_succ]
    rfl
  refine one_ (i := 8) (N := none) #[true, true, true, true, true, true, true, true, true, false, false] rfl rfl (one_of HT_.out (by kernel_rfl)) (by decide) (fun Kq_ hK_ => ?_)
  refine skip_ (w1 := ?_) (by rfl) rfl ?_ ?_
  rotate_left
  · go_simp
    first | done | rfl
  refine hK_.out _ _ trivial (fun hHeld => ?_)
  clear hK_ Kq_
  refine pure_ (i := 9) (N := some 64) (v := ?_) (a' := ?_) #[true, true, true, true, true, true, true, true, true, true, false] rfl rfl (any_of HT_.out (by kernel_rfl)) (fun _ _ _ h => h) (Or.inl ⟨by rfl, ?_⟩) ?_ ?_
  rotate_left
  · intro w'
    go_simp
    with_reducible rfl
  rotate_left
  · simp only [Act.put, List.setIfInBounds_toArray, List.set_cons_zero, List.set_cons_succ]
    rfl
  refine one_ (i := 10) (N := none) #[true, true, true, true, true, true, true, true, true, true, true] rfl rfl (one_of HT_.out (by kernel_rfl)) (by decide) (fun Kq_ hK_ => ?_)
  refine skip_ (w1 := ?_) (by rfl) rfl ?_ ?_
  rotate_left
  · go_simp
    first | done | rfl
  refine hK_.out _ _ trivial (fun hHeld => ?_)
  clear hK_ Kq_
  refine done_ (done_of HT_.out (by kernel_rfl)) ?_
  clear HT_ hHeld
  go_upto_region 36 with (fail)
  obtain ⟨V18, hV18⟩ : ∃ W, W = ((W1.setCell ⟨g5, 1, none⟩ (.int .u64 (gv b 1 2))).setCell ⟨g5, 2, none⟩ (.int .i64 (gv b 3 4))).drew := ⟨_, rfl⟩
  rw [← hV18]
  replace HD := Aside0.mk (show RS w V18 g5 ⟨gv b 0 1, gv b 1 2, gv b 3 4, 0, 0, 0, 0, 0, 0, 0, []⟩ none 0 by rw [hV18]; exact RS.drew_ ((HD0.out.set_ 1 (.int .u64 (gv b 1 2)) (x' := ⟨gv b 0 1, gv b 1 2, 0, 0, 0, 0, 0, 0, 0, 0, []⟩) (A' := none) (c' := 0) rfl).set_ 2 (.int .i64 (gv b 3 4)) (x' := ⟨gv b 0 1, gv b 1 2, gv b 3 4, 0, 0, 0, 0, 0, 0, 0, []⟩) (A' := none) (c' := 0) rfl))
  clear hV18 c0 c1 c2 c3 c4 c5 c6 c7 c8 c9 c10 z1 z2
  have HL2 := HLEN
  replace HD := Aside0.mk (show RS w V18 g5 x9 none 0 by rw [hx9.out]; exact HD.out)
  have HRX := Aside0.mk (show RdN v none x9.body.length x9.body by rw [hx9.out]; exact RdB_nil _)
  have hx5 := HD.out.cell
  obtain ⟨c0, c1, c2, c3, c4, c5, c6, c7, c8, c9⟩ := cel_at (x := x9) (A := none) (c := 0) hx5
  have c10 : V18.cell? ⟨g5, 10, none⟩ = some (.slice none x9.body.length 0) := blk_cell hx5 10
  (try simp only at c0 c1 c2 c3 c4 c5 c6 c7 c8 c9)
  clear hx5
  have hxr := HD.out.res
  have t0 : V18.cell? ⟨w.heap.size, 0, none⟩ = some (.int .i64 0) := blk_cell hxr 0
  have t1 : V18.cell? ⟨w.heap.size, 1, none⟩ = some (.int .u64 0) := blk_cell hxr 1
  have t2 : V18.cell? ⟨w.heap.size, 2, none⟩ = some (.int .i64 0) := blk_cell hxr 2
  have t3 : V18.cell? ⟨w.heap.size, 3, none⟩ = some (.int .i64 0) := blk_cell hxr 3
  have t4 : V18.cell? ⟨w.heap.size, 4, none⟩ = some (.int .i64 0) := blk_cell hxr 4
  have t5 : V18.cell? ⟨w.heap.size, 5, none⟩ = some (.int .i64 0) := blk_cell hxr 5
  have t6 : V18.cell? ⟨w.heap.size, 6, none⟩ = some (.int .u64 0) := blk_cell hxr 6
  have t7 : V18.cell? ⟨w.heap.size, 7, none⟩ = some (.int .i64 0) := blk_cell hxr 7
  have t8 : V18.cell? ⟨w.heap.size, 8, none⟩ = some (.int .i64 0) := blk_cell hxr 8
  have t9 : V18.cell? ⟨w.heap.size, 9, none⟩ = some (.int .i64 0) := blk_cell hxr 9
  have t10 : V18.cell? ⟨w.heap.size, 10, none⟩ = some (.slice none 0 0) := blk_cell hxr 10
  have zt0 := blk_frozen hxr 0
  have zt1 := blk_frozen hxr 1
  have zt2 := blk_frozen hxr 2
  have zt3 := blk_frozen hxr 3
  have zt4 := blk_frozen hxr 4
  have zt5 := blk_frozen hxr 5
  have zt6 := blk_frozen hxr 6
  have zt7 := blk_frozen hxr 7
  have zt8 := blk_frozen hxr 8
  have zt9 := blk_frozen hxr 9
  have zt10 := blk_frozen hxr 10
  clear hxr
  cases hq : rightB x9 with
  | false =>
    have HE := Aside0.mk (show res = (cel0, 0, 3) by rw [hres.out, if_neg HL2.out, if_neg (by rw [hq]; simp)])
    go_wp2_with (go_at_call 10; go_must (refine (refright_any x9 none 0 _ (Kd.C_below (Kd.C_below HRX.out HVW.out) HD.out.bel) hwf.out.2.2).mono ?_; rintro e y9 ⟨rfl, hb⟩; rw [hq]; replace HD := Aside0.mk (HD.out.below hb); clear c0 c1 c2 c3 c4 c5 c6 c7 c8 c9 c10 t0 zt0 t1 zt1 t2 zt2 t3 zt3 t4 zt4 t5 zt5 t6 zt6 t7 zt7 t8 zt8 t9 zt9 t10 zt10; have hx5 := HD.out.cell; obtain ⟨c0, c1, c2, c3, c4, c5, c6, c7, c8, c9⟩ := cel_at (x := x9) (A := none) (c := 0) hx5; have c10 : y9.cell? ⟨g5, 10, none⟩ = some (.slice none x9.body.length 0) := blk_cell hx5 10; (try simp only at c0 c1 c2 c3 c4 c5 c6 c7 c8 c9); clear hx5; have hxr := HD.out.res; have t0 : y9.cell? ⟨w.heap.size, 0, none⟩ = some (.int .i64 0) := blk_cell hxr 0; have t1 : y9.cell? ⟨w.heap.size, 1, none⟩ = some (.int .u64 0) := blk_cell hxr 1; have t2 : y9.cell? ⟨w.heap.size, 2, none⟩ = some (.int .i64 0) := blk_cell hxr 2; have t3 : y9.cell? ⟨w.heap.size, 3, none⟩ = some (.int .i64 0) := blk_cell hxr 3; have t4 : y9.cell? ⟨w.heap.size, 4, none⟩ = some (.int .i64 0) := blk_cell hxr 4; have t5 : y9.cell? ⟨w.heap.size, 5, none⟩ = some (.int .i64 0) := blk_cell hxr 5; have t6 : y9.cell? ⟨w.heap.size, 6, none⟩ = some (.int .u64 0) := blk_cell hxr 6; have t7 : y9.cell? ⟨w.heap.size, 7, none⟩ = some (.int .i64 0) := blk_cell hxr 7; have t8 : y9.cell? ⟨w.heap.size, 8, none⟩ = some (.int .i64 0) := blk_cell hxr 8; have t9 : y9.cell? ⟨w.heap.size, 9, none⟩ = some (.int .i64 0) := blk_cell hxr 9; have t10 : y9.cell? ⟨w.heap.size, 10, none⟩ = some (.slice none 0 0) := blk_cell hxr 10; have zt0 := blk_frozen hxr 0; have zt1 := blk_frozen hxr 1; have zt2 := blk_frozen hxr 2; have zt3 := blk_frozen hxr 3; have zt4 := blk_frozen hxr 4; have zt5 := blk_frozen hxr 5; have zt6 := blk_frozen hxr 6; have zt7 := blk_frozen hxr 7; have zt8 := blk_frozen hxr 8; have zt9 := blk_frozen hxr 9; have zt10 := blk_frozen hxr 10; clear hxr; clear hb))
    obtain ⟨W9, hW9⟩ : ∃ W9, W9 = (((((((((((y9.setCell ⟨w.heap.size, 0, none⟩ (.int .i64 0)).setCell ⟨w.heap.size, 1, none⟩ (.int .u64 0)).setCell ⟨w.heap.size, 2, none⟩ (.int .i64 0)).setCell ⟨w.heap.size, 3, none⟩ (.int .i64 0)).setCell ⟨w.heap.size, 4, none⟩ (.int .i64 0)).setCell ⟨w.heap.size, 5, none⟩ (.int .i64 0)).setCell ⟨w.heap.size, 6, none⟩ (.int .u64 0)).setCell ⟨w.heap.size, 7, none⟩ (.int .i64 0)).setCell ⟨w.heap.size, 8, none⟩ (.int .i64 0)).setCell ⟨w.heap.size, 9, none⟩ (.int .i64 0)).setCell ⟨w.heap.size, 10, none⟩ (.slice none 0 0)) := ⟨_, rfl⟩
    rw [← hW9]
    have hr9 : W9.heap[w.heap.size]? = some (.cells (celA cel0 none 0) 30 (0, 0)) := by rw [hW9]; exact putCell_at (x := cel0) (A := none) (c := 0) HD.out.res
    have hb9 : Below w.heap.size w W9 := by rw [hW9]; exact putCell_below (x := cel0) (A := none) (c := 0) HD.out.bel (Nat.le_refl _)
    clear hW9 t0 t1 t2 t3 t4 t5 t6 t7 t8 t9 t10
    have t0 : W9.cell? ⟨w.heap.size, 0, none⟩ = some (.int .i64 0) := blk_cell hr9 0
    have t1 : W9.cell? ⟨w.heap.size, 1, none⟩ = some (.int .u64 0) := blk_cell hr9 1
    have t2 : W9.cell? ⟨w.heap.size, 2, none⟩ = some (.int .i64 0) := blk_cell hr9 2
    have t3 : W9.cell? ⟨w.heap.size, 3, none⟩ = some (.int .i64 0) := blk_cell hr9 3
    have t4 : W9.cell? ⟨w.heap.size, 4, none⟩ = some (.int .i64 0) := blk_cell hr9 4
    have t5 : W9.cell? ⟨w.heap.size, 5, none⟩ = some (.int .i64 0) := blk_cell hr9 5
    have t6 : W9.cell? ⟨w.heap.size, 6, none⟩ = some (.int .u64 0) := blk_cell hr9 6
    have t7 : W9.cell? ⟨w.heap.size, 7, none⟩ = some (.int .i64 0) := blk_cell hr9 7
    have t8 : W9.cell? ⟨w.heap.size, 8, none⟩ = some (.int .i64 0) := blk_cell hr9 8
    have t9 : W9.cell? ⟨w.heap.size, 9, none⟩ = some (.int .i64 0) := blk_cell hr9 9
    have t10 : W9.cell? ⟨w.heap.size, 10, none⟩ = some (.slice none 0 0) := blk_cell hr9 10
    refine bodyPost_ret (v := .tuple #[.agg (celA cel0 none 0), .int .i64 0, .int .i64 3]) (by simp [results, Try.results28, go_sem, cel0, t0, t1, t2, t3, t4, t5, t6, t7, t8, t9, t10]) rfl ?_
    rw [HE.out]
    exact ⟨⟨none, 0, rfl, RdB_nil _⟩, hb9⟩
  | true =>
    have HE := Aside0.mk (show res = (x9, ((7 : Nat) : Int), 0) by rw [hres.out, if_neg HL2.out, if_pos hq])
    go_wp2_with (go_at_call 10; go_must (refine (refright_any x9 none 0 _ (Kd.C_below (Kd.C_below HRX.out HVW.out) HD.out.bel) hwf.out.2.2).mono ?_; rintro e y9 ⟨rfl, hb⟩; rw [hq]; replace HD := Aside0.mk (HD.out.below hb); clear c0 c1 c2 c3 c4 c5 c6 c7 c8 c9 c10 t0 zt0 t1 zt1 t2 zt2 t3 zt3 t4 zt4 t5 zt5 t6 zt6 t7 zt7 t8 zt8 t9 zt9 t10 zt10; have hx5 := HD.out.cell; obtain ⟨c0, c1, c2, c3, c4, c5, c6, c7, c8, c9⟩ := cel_at (x := x9) (A := none) (c := 0) hx5; have c10 : y9.cell? ⟨g5, 10, none⟩ = some (.slice none x9.body.length 0) := blk_cell hx5 10; (try simp only at c0 c1 c2 c3 c4 c5 c6 c7 c8 c9); clear hx5; have hxr := HD.out.res; have t0 : y9.cell? ⟨w.heap.size, 0, none⟩ = some (.int .i64 0) := blk_cell hxr 0; have t1 : y9.cell? ⟨w.heap.size, 1, none⟩ = some (.int .u64 0) := blk_cell hxr 1; have t2 : y9.cell? ⟨w.heap.size, 2, none⟩ = some (.int .i64 0) := blk_cell hxr 2; have t3 : y9.cell? ⟨w.heap.size, 3, none⟩ = some (.int .i64 0) := blk_cell hxr 3; have t4 : y9.cell? ⟨w.heap.size, 4, none⟩ = some (.int .i64 0) := blk_cell hxr 4; have t5 : y9.cell? ⟨w.heap.size, 5, none⟩ = some (.int .i64 0) := blk_cell hxr 5; have t6 : y9.cell? ⟨w.heap.size, 6, none⟩ = some (.int .u64 0) := blk_cell hxr 6; have t7 : y9.cell? ⟨w.heap.size, 7, none⟩ = some (.int .i64 0) := blk_cell hxr 7; have t8 : y9.cell? ⟨w.heap.size, 8, none⟩ = some (.int .i64 0) := blk_cell hxr 8; have t9 : y9.cell? ⟨w.heap.size, 9, none⟩ = some (.int .i64 0) := blk_cell hxr 9; have t10 : y9.cell? ⟨w.heap.size, 10, none⟩ = some (.slice none 0 0) := blk_cell hxr 10; have zt0 := blk_frozen hxr 0; have zt1 := blk_frozen hxr 1; have zt2 := blk_frozen hxr 2; have zt3 := blk_frozen hxr 3; have zt4 := blk_frozen hxr 4; have zt5 := blk_frozen hxr 5; have zt6 := blk_frozen hxr 6; have zt7 := blk_frozen hxr 7; have zt8 := blk_frozen hxr 8; have zt9 := blk_frozen hxr 9; have zt10 := blk_frozen hxr 10; clear hxr; clear hb))
    obtain ⟨W9, hW9⟩ : ∃ W9, W9 = (((((((((((y9.setCell ⟨w.heap.size, 0, none⟩ (.int .i64 x9.kind)).setCell ⟨w.heap.size, 1, none⟩ (.int .u64 x9.num)).setCell ⟨w.heap.size, 2, none⟩ (.int .i64 x9.min)).setCell ⟨w.heap.size, 3, none⟩ (.int .i64 x9.br)).setCell ⟨w.heap.size, 4, none⟩ (.int .i64 x9.vol)).setCell ⟨w.heap.size, 5, none⟩ (.int .i64 x9.blk)).setCell ⟨w.heap.size, 6, none⟩ (.int .u64 x9.ref)).setCell ⟨w.heap.size, 7, none⟩ (.int .i64 x9.fr)).setCell ⟨w.heap.size, 8, none⟩ (.int .i64 x9.to)).setCell ⟨w.heap.size, 9, none⟩ (.int .i64 x9.un)).setCell ⟨w.heap.size, 10, none⟩ (.slice none x9.body.length 0)) := ⟨_, rfl⟩
    rw [← hW9]
    have hr9 : W9.heap[w.heap.size]? = some (.cells (celA x9 none 0) 30 (0, 0)) := by rw [hW9]; exact putCell_at (x := x9) (A := none) (c := 0) HD.out.res
    have hb9 : Below w.heap.size w W9 := by rw [hW9]; exact putCell_below (x := x9) (A := none) (c := 0) HD.out.bel (Nat.le_refl _)
    clear hW9 t0 t1 t2 t3 t4 t5 t6 t7 t8 t9 t10
    have t0 : W9.cell? ⟨w.heap.size, 0, none⟩ = some (.int .i64 x9.kind) := blk_cell hr9 0
    have t1 : W9.cell? ⟨w.heap.size, 1, none⟩ = some (.int .u64 x9.num) := blk_cell hr9 1
    have t2 : W9.cell? ⟨w.heap.size, 2, none⟩ = some (.int .i64 x9.min) := blk_cell hr9 2
    have t3 : W9.cell? ⟨w.heap.size, 3, none⟩ = some (.int .i64 x9.br) := blk_cell hr9 3
    have t4 : W9.cell? ⟨w.heap.size, 4, none⟩ = some (.int .i64 x9.vol) := blk_cell hr9 4
    have t5 : W9.cell? ⟨w.heap.size, 5, none⟩ = some (.int .i64 x9.blk) := blk_cell hr9 5
    have t6 : W9.cell? ⟨w.heap.size, 6, none⟩ = some (.int .u64 x9.ref) := blk_cell hr9 6
    have t7 : W9.cell? ⟨w.heap.size, 7, none⟩ = some (.int .i64 x9.fr) := blk_cell hr9 7
    have t8 : W9.cell? ⟨w.heap.size, 8, none⟩ = some (.int .i64 x9.to) := blk_cell hr9 8
    have t9 : W9.cell? ⟨w.heap.size, 9, none⟩ = some (.int .i64 x9.un) := blk_cell hr9 9
    have t10 : W9.cell? ⟨w.heap.size, 10, none⟩ = some (.slice none x9.body.length 0) := blk_cell hr9 10
    refine bodyPost_ret (v := .tuple #[.agg (celA x9 none 0), .int .i64 ((7 : Nat) : Int), .int .i64 0]) (by simp [results, Try.results28, go_sem, t0, t1, t2, t3, t4, t5, t6, t7, t8, t9, t10]) rfl ?_
    rw [HE.out]
    exact ⟨⟨none, 0, rfl, HRX.out⟩, hb9⟩
end Go.Proofs.Ytghcnipehgjegaa.Cell
