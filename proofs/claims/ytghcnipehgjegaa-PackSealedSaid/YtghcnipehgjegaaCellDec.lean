/- What cell.Decode answers. Conditions stand in each statement. -/
import Derived.Test.YtghcnipehgjegaaCellRead
import Derived.Test.YtghcnipehgjegaaCellPut
namespace Go.Proofs.Ytghcnipehgjegaa.Cell
open Go.RowKit Go.Proofs.YtghcnipehgjegaaW.PrintWords Go.Proofs.YtghcnipehgjegaaW.PrintLast Go.Proofs.YtghcnipehgjegaaW.PrintMore Go.Proofs.Ytghcnipehgjegaa.Kit Go.Proofs.Ytghcnipehgjegaa.Plain Go.Proofs.Ytghcnipehgjegaa.Wire
set_option linter.unusedVariables false
set_option linter.unusedSimpArgs false
theorem R_kpb {W W' : World} {base p : Nat} {t : TypeId} {cs : Array Value} {v : Value} {l : List Int} (h : OwB W base v l) (hp : W.heap[p]? = some (.cells cs t (0, 0))) (ht : 5 ≠ t) (hk : KpB W.heap.size p W W') : OwB W' base v l := by
  refine Kd.R_mono (Kd.R_move (Kd.R_bound h) (fun k hk' => ?_)) (fun _ _ => trivial)
  obtain ⟨_, _, hlt, q, hq, cells, hc⟩ := hk'
  refine hk.block k hlt ?_
  rintro rfl
  rw [hp] at hc
  have hq' : q = 5 := by simpa [Kd.int, Kd.scalar] using hq
  injection hc with hc
  injection hc with _ hc
  exact ht (hq'.symm.trans hc.symm)
/-- How far a decoding is: the reader in block p, the cell in block g6, its parts in block g7, the result in the first new block. -/
structure DS (v w W : World) (p g6 g7 : Nat) (b : List Int) (m : Nat) (x : Cel) (A : Option Addr) (c : Nat) (f : Array Value) : Prop where
  rd : RdAt v W p b m
  bel : Below w.heap.size w W
  vle : v.heap.size ≤ w.heap.size
  cell : W.heap[g6]? = some (.cells (celA x A c) 30 (0, 0))
  pts : W.heap[g7]? = some (.cells f 84 (0, 0))
  res : W.heap[w.heap.size]? = some (.cells (celA cel0 none 0) 30 (0, 0))
  own : OwB W w.heap.size (.slice A x.body.length c) x.body
  cap : x.body.length ≤ c
  ord : w.heap.size < p ∧ p < g6 ∧ g6 < g7
theorem DS.num {v w W W' : World} {p g6 g7 : Nat} {b : List Int} {m m' : Nat} {x : Cel} {A : Option Addr} {c : Nat} {f : Array Value} (h : DS v w W p g6 g7 b m x A c f) (hr : RdAt v W' p b m') (hk : KpB W.heap.size p W W') : DS v w W' p g6 g7 b m' x A c f := by
  have h0 := h.ord
  obtain ⟨_, _, A0, c0, _, _, hp⟩ := h.rd
  exact { rd := hr, bel := h.bel.trans (hk.below h.bel.size (by omega)), vle := h.vle, cell := (hk.block _ (blk_lt h.cell) (by omega)).trans h.cell, pts := (hk.block _ (blk_lt h.pts) (by omega)).trans h.pts, res := (hk.block _ (blk_lt h.res) (by omega)).trans h.res, own := R_kpb h.own hp (by decide) hk, cap := h.cap, ord := h0 }
theorem DS.below {v w W W' : World} {p g6 g7 : Nat} {b : List Int} {m : Nat} {x : Cel} {A : Option Addr} {c : Nat} {f : Array Value} (h : DS v w W p g6 g7 b m x A c f) (hb : Below W.heap.size W W') : DS v w W' p g6 g7 b m x A c f := by
  obtain ⟨h1, h2, A0, c0, h3, h4, hp⟩ := h.rd
  exact { rd := ⟨h1, h2.trans (hb.mono h2.size), A0, c0, h3, h4, (hb.block _ (blk_lt hp)).trans hp⟩, bel := h.bel.trans (hb.mono h.bel.size), vle := h.vle, cell := (hb.block _ (blk_lt h.cell)).trans h.cell, pts := (hb.block _ (blk_lt h.pts)).trans h.pts, res := (hb.block _ (blk_lt h.res)).trans h.res, own := Kd.R_below h.own hb, cap := h.cap, ord := h.ord }
theorem DS.set_ {v w W : World} {p g6 g7 : Nat} {b : List Int} {m : Nat} {x : Cel} {A : Option Addr} {c : Nat} {f : Array Value} (h : DS v w W p g6 g7 b m x A c f) (i : Nat) (u : Value) {x' : Cel} (he : (celA x A c).setIfInBounds i u = celA x' A c) (hb : x'.body = x.body) :
    DS v w (W.setCell ⟨g6, i, none⟩ u) p g6 g7 b m x' A c f := by
  have h0 := h.ord
  obtain ⟨h1, h2, A0, c0, h3, h4, hp⟩ := h.rd
  exact { rd := ⟨h1, h2.setCell (p := ⟨g6, i, none⟩) (by show v.heap.size ≤ g6; have := h.vle; omega) u, A0, c0, h3, h4, (Below.heap_setCell W ⟨g6, i, none⟩ u p (by show p ≠ g6; omega)).trans hp⟩, bel := h.bel.setCell (p := ⟨g6, i, none⟩) (by show w.heap.size ≤ g6; omega) u, vle := h.vle, cell := (by rw [← he]; exact blk_set h.cell i u), pts := (Below.heap_setCell W ⟨g6, i, none⟩ u g7 (by show g7 ≠ g6; omega)).trans h.pts, res := (Below.heap_setCell W ⟨g6, i, none⟩ u _ (by show w.heap.size ≠ g6; omega)).trans h.res, own := (by rw [hb]; exact R_set_far' h.own (Kd.R_ne h.own h.cell (by decide))), cap := (by rw [hb]; exact h.cap), ord := h0 }
theorem DS.setBody {v w W : World} {p g6 g7 : Nat} {b : List Int} {m : Nat} {x : Cel} {A A' : Option Addr} {c c' : Nat} {f : Array Value} {l : List Int} (h : DS v w W p g6 g7 b m x A c f) (ho : OwB W w.heap.size (.slice A' l.length c') l) (hc : l.length ≤ c') :
    DS v w (W.setCell ⟨g6, 10, none⟩ (.slice A' l.length c')) p g6 g7 b m { x with body := l } A' c' f := by
  have h0 := h.ord
  obtain ⟨h1, h2, A0, c0, h3, h4, hp⟩ := h.rd
  exact { rd := ⟨h1, h2.setCell (p := ⟨g6, 10, none⟩) (by show v.heap.size ≤ g6; have := h.vle; omega) _, A0, c0, h3, h4, (Below.heap_setCell W ⟨g6, 10, none⟩ _ p (by show p ≠ g6; omega)).trans hp⟩, bel := h.bel.setCell (p := ⟨g6, 10, none⟩) (by show w.heap.size ≤ g6; omega) _, vle := h.vle, cell := blk_set h.cell 10 _, pts := (Below.heap_setCell W ⟨g6, 10, none⟩ _ g7 (by show g7 ≠ g6; omega)).trans h.pts, res := (Below.heap_setCell W ⟨g6, 10, none⟩ _ _ (by show w.heap.size ≠ g6; omega)).trans h.res, own := R_set_far' ho (Kd.R_ne ho h.cell (by decide)), cap := hc, ord := h0 }
theorem RdAt.below {w W W' : World} {p : Nat} {b : List Int} {m : Nat} (h : RdAt w W p b m) (hb : Below W.heap.size W W') : RdAt w W' p b m := by
  obtain ⟨h1, h2, A0, c0, h3, h4, hp⟩ := h
  exact ⟨h1, h2.trans (hb.mono h2.size), A0, c0, h3, h4, (hb.block _ (blk_lt hp)).trans hp⟩
theorem dec_start {v w : World} {A : Option Addr} {c : Nat} {b : List Int} (hv : Below v.heap.size v w) (hr : RdB v A b) (hc : b.length ≤ c) {o1 : Obj} : RdAt v ((w.alloc o1).alloc (.cells #[.slice A b.length c, .bool false] 91)) (w.heap.size + 1) b 0 := by
  refine ⟨Nat.le_succ_of_le hv.size, (hv.alloc hv.size _).alloc (by have := hv.size; simp; omega) _, A, c, by omega, hr, ?_⟩
  have h1 := blk_new (w.alloc o1) (.cells #[.slice A b.length c, .bool false] 91)
  rw [show (w.alloc o1).heap.size = w.heap.size + 1 by simp] at h1
  exact h1
theorem dec_first {v w w1 w2 : World} {A : Option Addr} {c : Nat} {b : List Int} {k : Int} {f : Array Value} (hv : Below v.heap.size v w) (hrd : RdAt v w1 (w.heap.size + 1) b (0 + 1))
    (hk : KpB ((w.alloc (.cells (#[.int .i64 0, .int .u64 0, .int .i64 0, .int .i64 0, .int .i64 0, .int .i64 0, .int .u64 0, .int .i64 0, .int .i64 0, .int .i64 0, .slice none 0 0]) 30)).alloc (.cells #[.slice A b.length c, .bool false] 91)).heap.size (w.heap.size + 1) ((w.alloc (.cells (#[.int .i64 0, .int .u64 0, .int .i64 0, .int .i64 0, .int .i64 0, .int .i64 0, .int .u64 0, .int .i64 0, .int .i64 0, .int .i64 0, .slice none 0 0]) 30)).alloc (.cells #[.slice A b.length c, .bool false] 91)) w1)
    (hb : Below (w1.alloc (.cells (#[.int .i64 k, .int .u64 0, .int .i64 0, .int .i64 0, .int .i64 0, .int .i64 0, .int .u64 0, .int .i64 0, .int .i64 0, .int .i64 0, .slice none 0 0]) 30)).heap.size (w1.alloc (.cells (#[.int .i64 k, .int .u64 0, .int .i64 0, .int .i64 0, .int .i64 0, .int .i64 0, .int .u64 0, .int .i64 0, .int .i64 0, .int .i64 0, .slice none 0 0]) 30)) w2) :
    DS v w (w2.alloc (.cells f 84)) (w.heap.size + 1) w1.heap.size w2.heap.size b 1 ⟨k, 0, 0, 0, 0, 0, 0, 0, 0, 0, []⟩ none 0 f := by
  have hs1 : w.heap.size + 2 ≤ w1.heap.size := by have := hk.size; simp at this; omega
  have hs2 : w1.heap.size + 1 ≤ w2.heap.size := by have := hb.size; simp at this; omega
  have hres : w1.heap[w.heap.size]? = some (.cells (celA cel0 none 0) 30 (0, 0)) := (hk.block _ (by simp; omega) (by omega)).trans (blk_alloc (blk_new w _) _)
  have hcel : w2.heap[w1.heap.size]? = some (.cells (celA ⟨k, 0, 0, 0, 0, 0, 0, 0, 0, 0, []⟩ none 0) 30 (0, 0)) := (hb.block _ (by simp)).trans (blk_new w1 _)
  have b1 : Below w.heap.size w w1 := (below_alloc (below_alloc (Below.refl _ _) _) _).trans (hk.below (by simp; omega) (by omega))
  have b2 : Below w.heap.size w w2 := (b1.alloc b1.size _).trans (hb.mono (by have := b1.size; simp; omega))
  exact { bel := b2.alloc b2.size _, vle := hv.size, rd := (hrd.below (below_alloc (Below.refl _ _) _)).below hb |>.below (below_alloc (Below.refl _ _) _), cell := blk_alloc hcel _, pts := blk_new w2 _, res := blk_alloc ((hb.block _ (by simp; omega)).trans (blk_alloc hres _)) _, own := Kd.R_nil _ _ _ _ _, cap := Nat.le_refl _, ord := ⟨by omega, by omega, by omega⟩ }
theorem drew_heap_ (X : World) : X.drew.heap = X.heap := rfl
theorem put_far_ {W : World} {g k : Nat} {x : Cel} {A : Option Addr} {c : Nat} (hk : k ≠ g) : (putCell W g x A c).drew.heap[k]? = W.heap[k]? := by
  rw [drew_heap_]
  exact putCell_far hk
theorem put_blk {W : World} {g k : Nat} {x : Cel} {A : Option Addr} {c : Nat} {o : Obj} (hk : k ≠ g) (h : W.heap[k]? = some o) : (putCell W g x A c).drew.heap[k]? = some o := (put_far_ hk).trans h
theorem put_keeps {W : World} {g k j : Nat} {x : Cel} {A : Option Addr} {c : Nat} {u : Value} (hk : k ≠ g) (h : W.cell? ⟨k, j, none⟩ = some u) : (putCell W g x A c).drew.cell? ⟨k, j, none⟩ = some u := by
  rw [← h]
  exact World.cell?_of_block (put_far_ hk)
theorem put_at_ {W : World} {g : Nat} {t : TypeId} {x y : Cel} {A A' : Option Addr} {c c' : Nat} (h : W.heap[g]? = some (.cells (celA y A' c') t (0, 0))) : (putCell W g x A c).drew.heap[g]? = some (.cells (celA x A c) t (0, 0)) := by
  rw [drew_heap_]
  exact putCell_at h
theorem put_below_ {w W : World} {B g : Nat} {x : Cel} {A : Option Addr} {c : Nat} (HB : Below B w W) (hg : B ≤ g) : Below B w (putCell W g x A c).drew := below_drew (putCell_below HB hg)
theorem own_put {W W9 : World} {base g : Nat} {v : Value} {l : List Int} {cs : Array Value} {t : TypeId} (h : OwB W base v l) (hg : W.heap[g]? = some (.cells cs t (0, 0))) (ht : 5 ≠ t) (hf : ∀ k, k ≠ g → W9.heap[k]? = W.heap[k]?) : OwB W9 base v l := by
  have h1 : Kd.R (Kd.int .u8) 5 W base (fun k => k ≠ g) v l := Kd.R_mono (Kd.R_far1 h rfl (Kd.R_ne h hg ht)) (fun k hk => hk.2)
  exact Kd.R_mono (Kd.R_move h1 hf) (fun _ _ => trivial)
def tabD21 : Bool × List (List Nat × List Nat) := (true, [([], []), ([], []), ([1], [1]), ([2], [2]), ([3], [3]), ([0, 0], [0]), ([4, 5, 0, 1, 2, 3, 4, 5], [4]), ([6, 0, 1, 2, 3, 4, 5, 6], [])])
theorem tabD21_ok : rtab .any (opsOf Try.f27 21) = tabD21 := by kernel_rfl
set_option maxHeartbeats 6400000 in
set_option maxRecDepth 100000 in
theorem decode_prb (A : Option Addr) (c : Nat) (b : List Int) (v w : World) (hv : Below v.heap.size v w) (hr : RdB v A b) (hc : b.length ≤ c) (hy : Byt b) (hl : b.length ≤ 1000) (h0 : b.length ≠ 0) (hV : Aside0 (partsV (gv b 0 1) = .agg #[.bool true, .bool true, .bool false, .bool true])) (hK : Aside0 (hasKind (gv b 0 1) = true)) (nb : Nat) (hnb : Aside0 (gv b 13 1 = (nb : Int) ∧ nb ≤ 255))
    (x9 : Cel) (hx9 : Aside0 (x9 = ⟨gv b 0 1, gv b 1 2, gv b 3 4, gv b 7 1, gv b 8 1, gv b 9 2, gv b 11 2, 0, 0, 0, tk b 14 nb⟩)) (hwf : Aside0 (CelWf x9)) (res : Cel × List Int × Int)
    (hres : Aside0 (res = if b.length < 14 + nb then (cel0, [], 14) else if rightB x9 then (x9, b.drop (14 + nb), 0) else (cel0, [], 3))) :
    Calls Try.prog 27 #[.slice A b.length c] w fun e w' => (∃ A1 c1 A2 c2, e = .returned (.tuple #[.agg (celA res.1 A1 c1), .slice A2 res.2.1.length c2, .int .i64 res.2.2]) ∧ OwB w' w.heap.size (.slice A1 res.1.body.length c1) res.1.body ∧ RdB v A2 res.2.1 ∧ res.2.1.length ≤ c2) ∧ Below w.heap.size w w' := by
  have hmx := C_max hr
  have HR := Aside0.mk hr
  have HVW := Aside0.mk hv
  have HY := Aside0.mk hy
  have HC := Aside0.mk hc
  have e1 : IntKind.u64.wrap (gv b 1 2) = gv b 1 2 := wrap_u64_in _ (gv_range hy 1 2).1 (by have := (gv_range hy 1 2).2; omega)
  have e11 : IntKind.u64.wrap (gv b 11 2) = gv b 11 2 := wrap_u64_in _ (gv_range hy 11 2).1 (by have := (gv_range hy 11 2).2; omega)
  clear hr hy hc hv
  go_enter Try.func27, Try.ntmps27
  go_upto_region 8 with (first | (go_at_call 39; go_must (refine (num_any (w.heap.size + 1) b 0 1 1 rfl v _ (dec_start HVW.out HR.out HC.out) HY.out (by decide) (by decide)).mono ?_; rintro e w1 ⟨rfl, h2, hk⟩; have HRD := Aside0.mk h2; have HK1 := Aside0.mk hk; clear h2 hk)) | (go_at_call 36; go_must (refine (has_any (gv b 0 1) _).mono ?_; rintro e w2 ⟨rfl, hb⟩; rw [hV.out, hK.out]; have HB2 := Aside0.mk hb; clear hb)))
  obtain ⟨W3, hW3⟩ : ∃ W3, W3 = w2.alloc (.cells #[.bool true, .bool true, .bool false, .bool true] 84) := ⟨_, rfl⟩
  rw [← hW3]
  have HD := Aside0.mk (show DS v w W3 (w.heap.size + 1) w1.heap.size w2.heap.size b 1 ⟨gv b 0 1, 0, 0, 0, 0, 0, 0, 0, 0, 0, []⟩ none 0 #[.bool true, .bool true, .bool false, .bool true] by rw [hW3]; exact dec_first HVW.out HRD.out HK1.out HB2.out)
  obtain ⟨p, hp⟩ : ∃ p, p = w.heap.size + 1 := ⟨_, rfl⟩
  obtain ⟨g6, hg6⟩ : ∃ g, g = w1.heap.size := ⟨_, rfl⟩
  obtain ⟨g7, hg7⟩ : ∃ g, g = w2.heap.size := ⟨_, rfl⟩
  rw [← hp, ← hg6, ← hg7] at HD ⊢
  have hord := HD.out.ord
  clear hW3 HRD HK1 HB2 hp hg6 hg7
  have hx6 := HD.out.cell
  obtain ⟨c0, c1, c2, c3, c4, c5, c6, c7, c8, c9⟩ := cel_at (x := ⟨gv b 0 1, 0, 0, 0, 0, 0, 0, 0, 0, 0, []⟩) (A := none) (c := 0) hx6
  have c10 : W3.cell? ⟨g6, 10, none⟩ = some (.slice none 0 0) := blk_cell hx6 10
  (try simp only at c0 c1 c2 c3 c4 c5 c6 c7 c8 c9)
  have z1 := blk_frozen hx6 1
  have z2 := blk_frozen hx6 2
  have hx7 := HD.out.pts
  have q0 : W3.cell? ⟨g7, 0, none⟩ = some (.bool true) := blk_cell hx7 0
  have q1 : W3.cell? ⟨g7, 1, none⟩ = some (.bool true) := blk_cell hx7 1
  have q2 : W3.cell? ⟨g7, 2, none⟩ = some (.bool false) := blk_cell hx7 2
  have q3 : W3.cell? ⟨g7, 3, none⟩ = some (.bool true) := blk_cell hx7 3
  clear hx6 hx7
  go_upto_region 10 with (first
    | (go_at_call 39; (with_reducible refine (num_any p b 1 2 2 rfl v W3 HD.out.rd HY.out (by decide) (by decide)).mono ?_); go_must (rintro e y1 ⟨rfl, h2, hk⟩; replace HD := Aside0.mk (HD.out.num h2 hk); clear c0 c1 c2 c3 c4 c5 c6 c7 c8 c9 c10 q0 q1 q2 q3 z1 z2; have hx6 := HD.out.cell; obtain ⟨c0, c1, c2, c3, c4, c5, c6, c7, c8, c9⟩ := cel_at (x := ⟨gv b 0 1, 0, 0, 0, 0, 0, 0, 0, 0, 0, []⟩) (A := none) (c := 0) hx6; have c10 : y1.cell? ⟨g6, 10, none⟩ = some (.slice none 0 0) := blk_cell hx6 10; (try simp only at c0 c1 c2 c3 c4 c5 c6 c7 c8 c9); have z1 := blk_frozen hx6 1; have z2 := blk_frozen hx6 2; have hx7 := HD.out.pts; have q0 : y1.cell? ⟨g7, 0, none⟩ = some (.bool true) := blk_cell hx7 0; have q1 : y1.cell? ⟨g7, 1, none⟩ = some (.bool true) := blk_cell hx7 1; have q2 : y1.cell? ⟨g7, 2, none⟩ = some (.bool false) := blk_cell hx7 2; have q3 : y1.cell? ⟨g7, 3, none⟩ = some (.bool true) := blk_cell hx7 3; clear hx6 hx7; clear h2 hk))
    | (go_at_call 39; (with_reducible refine (num_any p b 3 4 4 rfl v y1 HD.out.rd HY.out (by decide) (by decide)).mono ?_); go_must (rintro e y2 ⟨rfl, h2, hk⟩; replace HD := Aside0.mk (HD.out.num h2 hk); clear c0 c1 c2 c3 c4 c5 c6 c7 c8 c9 c10 q0 q1 q2 q3 z1 z2; have hx6 := HD.out.cell; obtain ⟨c0, c1, c2, c3, c4, c5, c6, c7, c8, c9⟩ := cel_at (x := ⟨gv b 0 1, 0, 0, 0, 0, 0, 0, 0, 0, 0, []⟩) (A := none) (c := 0) hx6; have c10 : y2.cell? ⟨g6, 10, none⟩ = some (.slice none 0 0) := blk_cell hx6 10; (try simp only at c0 c1 c2 c3 c4 c5 c6 c7 c8 c9); have z1 := blk_frozen hx6 1; have z2 := blk_frozen hx6 2; have hx7 := HD.out.pts; have q0 : y2.cell? ⟨g7, 0, none⟩ = some (.bool true) := blk_cell hx7 0; have q1 : y2.cell? ⟨g7, 1, none⟩ = some (.bool true) := blk_cell hx7 1; have q2 : y2.cell? ⟨g7, 2, none⟩ = some (.bool false) := blk_cell hx7 2; have q3 : y2.cell? ⟨g7, 3, none⟩ = some (.bool true) := blk_cell hx7 3; clear hx6 hx7; clear h2 hk)))
  obtain ⟨V8, hV8⟩ : ∃ W, W = ((y2.setCell ⟨g6, 1, none⟩ (.int .u64 (gv b 1 2))).setCell ⟨g6, 2, none⟩ (.int .i64 (gv b 3 4))) := ⟨_, rfl⟩
  rw [← hV8]
  replace HD := Aside0.mk (show DS v w V8 p g6 g7 b (7) ⟨gv b 0 1, gv b 1 2, gv b 3 4, 0, 0, 0, 0, 0, 0, 0, []⟩ none 0 #[.bool true, .bool true, .bool false, .bool true] by rw [hV8]; exact ((HD.out.set_ 1 (.int .u64 (gv b 1 2)) (x' := ⟨gv b 0 1, gv b 1 2, 0, 0, 0, 0, 0, 0, 0, 0, []⟩) rfl rfl).set_ 2 (.int .i64 (gv b 3 4)) (x' := ⟨gv b 0 1, gv b 1 2, gv b 3 4, 0, 0, 0, 0, 0, 0, 0, []⟩) rfl rfl))
  clear hV8; clear c0 c1 c2 c3 c4 c5 c6 c7 c8 c9 c10 q0 q1 q2 q3 z1 z2
  have hx6 := HD.out.cell
  obtain ⟨c0, c1, c2, c3, c4, c5, c6, c7, c8, c9⟩ := cel_at (x := ⟨gv b 0 1, gv b 1 2, gv b 3 4, 0, 0, 0, 0, 0, 0, 0, []⟩) (A := none) (c := 0) hx6
  have c10 : V8.cell? ⟨g6, 10, none⟩ = some (.slice none 0 0) := blk_cell hx6 10
  (try simp only at c0 c1 c2 c3 c4 c5 c6 c7 c8 c9)
  have z3 := blk_frozen hx6 3
  have z4 := blk_frozen hx6 4
  have z5 := blk_frozen hx6 5
  have hx7 := HD.out.pts
  have q0 : V8.cell? ⟨g7, 0, none⟩ = some (.bool true) := blk_cell hx7 0
  have q1 : V8.cell? ⟨g7, 1, none⟩ = some (.bool true) := blk_cell hx7 1
  have q2 : V8.cell? ⟨g7, 2, none⟩ = some (.bool false) := blk_cell hx7 2
  have q3 : V8.cell? ⟨g7, 3, none⟩ = some (.bool true) := blk_cell hx7 3
  clear hx6 hx7
  go_upto_region 12 with (first
    | (go_at_call 39; (with_reducible refine (num_any p b 7 1 1 rfl v V8 HD.out.rd HY.out (by decide) (by decide)).mono ?_); go_must (rintro e y1 ⟨rfl, h2, hk⟩; replace HD := Aside0.mk (HD.out.num h2 hk); clear c0 c1 c2 c3 c4 c5 c6 c7 c8 c9 c10 q0 q1 q2 q3 z3 z4 z5; have hx6 := HD.out.cell; obtain ⟨c0, c1, c2, c3, c4, c5, c6, c7, c8, c9⟩ := cel_at (x := ⟨gv b 0 1, gv b 1 2, gv b 3 4, 0, 0, 0, 0, 0, 0, 0, []⟩) (A := none) (c := 0) hx6; have c10 : y1.cell? ⟨g6, 10, none⟩ = some (.slice none 0 0) := blk_cell hx6 10; (try simp only at c0 c1 c2 c3 c4 c5 c6 c7 c8 c9); have z3 := blk_frozen hx6 3; have z4 := blk_frozen hx6 4; have z5 := blk_frozen hx6 5; have hx7 := HD.out.pts; have q0 : y1.cell? ⟨g7, 0, none⟩ = some (.bool true) := blk_cell hx7 0; have q1 : y1.cell? ⟨g7, 1, none⟩ = some (.bool true) := blk_cell hx7 1; have q2 : y1.cell? ⟨g7, 2, none⟩ = some (.bool false) := blk_cell hx7 2; have q3 : y1.cell? ⟨g7, 3, none⟩ = some (.bool true) := blk_cell hx7 3; clear hx6 hx7; clear h2 hk))
    | (go_at_call 39; (with_reducible refine (num_any p b 8 1 1 rfl v y1 HD.out.rd HY.out (by decide) (by decide)).mono ?_); go_must (rintro e y2 ⟨rfl, h2, hk⟩; replace HD := Aside0.mk (HD.out.num h2 hk); clear c0 c1 c2 c3 c4 c5 c6 c7 c8 c9 c10 q0 q1 q2 q3 z3 z4 z5; have hx6 := HD.out.cell; obtain ⟨c0, c1, c2, c3, c4, c5, c6, c7, c8, c9⟩ := cel_at (x := ⟨gv b 0 1, gv b 1 2, gv b 3 4, 0, 0, 0, 0, 0, 0, 0, []⟩) (A := none) (c := 0) hx6; have c10 : y2.cell? ⟨g6, 10, none⟩ = some (.slice none 0 0) := blk_cell hx6 10; (try simp only at c0 c1 c2 c3 c4 c5 c6 c7 c8 c9); have z3 := blk_frozen hx6 3; have z4 := blk_frozen hx6 4; have z5 := blk_frozen hx6 5; have hx7 := HD.out.pts; have q0 : y2.cell? ⟨g7, 0, none⟩ = some (.bool true) := blk_cell hx7 0; have q1 : y2.cell? ⟨g7, 1, none⟩ = some (.bool true) := blk_cell hx7 1; have q2 : y2.cell? ⟨g7, 2, none⟩ = some (.bool false) := blk_cell hx7 2; have q3 : y2.cell? ⟨g7, 3, none⟩ = some (.bool true) := blk_cell hx7 3; clear hx6 hx7; clear h2 hk))
    | (go_at_call 39; (with_reducible refine (num_any p b 9 2 2 rfl v y2 HD.out.rd HY.out (by decide) (by decide)).mono ?_); go_must (rintro e y3 ⟨rfl, h2, hk⟩; replace HD := Aside0.mk (HD.out.num h2 hk); clear c0 c1 c2 c3 c4 c5 c6 c7 c8 c9 c10 q0 q1 q2 q3 z3 z4 z5; have hx6 := HD.out.cell; obtain ⟨c0, c1, c2, c3, c4, c5, c6, c7, c8, c9⟩ := cel_at (x := ⟨gv b 0 1, gv b 1 2, gv b 3 4, 0, 0, 0, 0, 0, 0, 0, []⟩) (A := none) (c := 0) hx6; have c10 : y3.cell? ⟨g6, 10, none⟩ = some (.slice none 0 0) := blk_cell hx6 10; (try simp only at c0 c1 c2 c3 c4 c5 c6 c7 c8 c9); have z3 := blk_frozen hx6 3; have z4 := blk_frozen hx6 4; have z5 := blk_frozen hx6 5; have hx7 := HD.out.pts; have q0 : y3.cell? ⟨g7, 0, none⟩ = some (.bool true) := blk_cell hx7 0; have q1 : y3.cell? ⟨g7, 1, none⟩ = some (.bool true) := blk_cell hx7 1; have q2 : y3.cell? ⟨g7, 2, none⟩ = some (.bool false) := blk_cell hx7 2; have q3 : y3.cell? ⟨g7, 3, none⟩ = some (.bool true) := blk_cell hx7 3; clear hx6 hx7; clear h2 hk)))
  obtain ⟨V10, hV10⟩ : ∃ W, W = (((y3.setCell ⟨g6, 3, none⟩ (.int .i64 (gv b 7 1))).setCell ⟨g6, 4, none⟩ (.int .i64 (gv b 8 1))).setCell ⟨g6, 5, none⟩ (.int .i64 (gv b 9 2))) := ⟨_, rfl⟩
  rw [← hV10]
  replace HD := Aside0.mk (show DS v w V10 p g6 g7 b (11) ⟨gv b 0 1, gv b 1 2, gv b 3 4, gv b 7 1, gv b 8 1, gv b 9 2, 0, 0, 0, 0, []⟩ none 0 #[.bool true, .bool true, .bool false, .bool true] by rw [hV10]; exact (((HD.out.set_ 3 (.int .i64 (gv b 7 1)) (x' := ⟨gv b 0 1, gv b 1 2, gv b 3 4, gv b 7 1, 0, 0, 0, 0, 0, 0, []⟩) rfl rfl).set_ 4 (.int .i64 (gv b 8 1)) (x' := ⟨gv b 0 1, gv b 1 2, gv b 3 4, gv b 7 1, gv b 8 1, 0, 0, 0, 0, 0, []⟩) rfl rfl).set_ 5 (.int .i64 (gv b 9 2)) (x' := ⟨gv b 0 1, gv b 1 2, gv b 3 4, gv b 7 1, gv b 8 1, gv b 9 2, 0, 0, 0, 0, []⟩) rfl rfl))
  clear hV10; clear c0 c1 c2 c3 c4 c5 c6 c7 c8 c9 c10 q0 q1 q2 q3 z3 z4 z5
  have hx6 := HD.out.cell
  obtain ⟨c0, c1, c2, c3, c4, c5, c6, c7, c8, c9⟩ := cel_at (x := ⟨gv b 0 1, gv b 1 2, gv b 3 4, gv b 7 1, gv b 8 1, gv b 9 2, 0, 0, 0, 0, []⟩) (A := none) (c := 0) hx6
  have c10 : V10.cell? ⟨g6, 10, none⟩ = some (.slice none 0 0) := blk_cell hx6 10
  (try simp only at c0 c1 c2 c3 c4 c5 c6 c7 c8 c9)
  have z6 := blk_frozen hx6 6
  have hx7 := HD.out.pts
  have q0 : V10.cell? ⟨g7, 0, none⟩ = some (.bool true) := blk_cell hx7 0
  have q1 : V10.cell? ⟨g7, 1, none⟩ = some (.bool true) := blk_cell hx7 1
  have q2 : V10.cell? ⟨g7, 2, none⟩ = some (.bool false) := blk_cell hx7 2
  have q3 : V10.cell? ⟨g7, 3, none⟩ = some (.bool true) := blk_cell hx7 3
  clear hx6 hx7
  go_upto_region 16 with (first
    | (go_at_call 39; (with_reducible refine (num_any p b 11 2 2 rfl v V10 HD.out.rd HY.out (by decide) (by decide)).mono ?_); go_must (rintro e y1 ⟨rfl, h2, hk⟩; replace HD := Aside0.mk (HD.out.num h2 hk); clear c0 c1 c2 c3 c4 c5 c6 c7 c8 c9 c10 q0 q1 q2 q3 z6; have hx6 := HD.out.cell; obtain ⟨c0, c1, c2, c3, c4, c5, c6, c7, c8, c9⟩ := cel_at (x := ⟨gv b 0 1, gv b 1 2, gv b 3 4, gv b 7 1, gv b 8 1, gv b 9 2, 0, 0, 0, 0, []⟩) (A := none) (c := 0) hx6; have c10 : y1.cell? ⟨g6, 10, none⟩ = some (.slice none 0 0) := blk_cell hx6 10; (try simp only at c0 c1 c2 c3 c4 c5 c6 c7 c8 c9); have z6 := blk_frozen hx6 6; have hx7 := HD.out.pts; have q0 : y1.cell? ⟨g7, 0, none⟩ = some (.bool true) := blk_cell hx7 0; have q1 : y1.cell? ⟨g7, 1, none⟩ = some (.bool true) := blk_cell hx7 1; have q2 : y1.cell? ⟨g7, 2, none⟩ = some (.bool false) := blk_cell hx7 2; have q3 : y1.cell? ⟨g7, 3, none⟩ = some (.bool true) := blk_cell hx7 3; clear hx6 hx7; clear h2 hk)))
  obtain ⟨V12, hV12⟩ : ∃ W, W = (y1.setCell ⟨g6, 6, none⟩ (.int .u64 (gv b 11 2))) := ⟨_, rfl⟩
  rw [← hV12]
  replace HD := Aside0.mk (show DS v w V12 p g6 g7 b (13) ⟨gv b 0 1, gv b 1 2, gv b 3 4, gv b 7 1, gv b 8 1, gv b 9 2, gv b 11 2, 0, 0, 0, []⟩ none 0 #[.bool true, .bool true, .bool false, .bool true] by rw [hV12]; exact (HD.out.set_ 6 (.int .u64 (gv b 11 2)) (x' := ⟨gv b 0 1, gv b 1 2, gv b 3 4, gv b 7 1, gv b 8 1, gv b 9 2, gv b 11 2, 0, 0, 0, []⟩) rfl rfl))
  clear hV12; clear c0 c1 c2 c3 c4 c5 c6 c7 c8 c9 c10 q0 q1 q2 q3 z6
  have hx6 := HD.out.cell
  obtain ⟨c0, c1, c2, c3, c4, c5, c6, c7, c8, c9⟩ := cel_at (x := ⟨gv b 0 1, gv b 1 2, gv b 3 4, gv b 7 1, gv b 8 1, gv b 9 2, gv b 11 2, 0, 0, 0, []⟩) (A := none) (c := 0) hx6
  have c10 : V12.cell? ⟨g6, 10, none⟩ = some (.slice none 0 0) := blk_cell hx6 10
  (try simp only at c0 c1 c2 c3 c4 c5 c6 c7 c8 c9)
  have z10 := blk_frozen hx6 10
  have hx7 := HD.out.pts
  have q0 : V12.cell? ⟨g7, 0, none⟩ = some (.bool true) := blk_cell hx7 0
  have q1 : V12.cell? ⟨g7, 1, none⟩ = some (.bool true) := blk_cell hx7 1
  have q2 : V12.cell? ⟨g7, 2, none⟩ = some (.bool false) := blk_cell hx7 2
  have q3 : V12.cell? ⟨g7, 3, none⟩ = some (.bool true) := blk_cell hx7 3
  clear hx6 hx7
  go_upto_region 17 with (first
    | (go_at_call 39; (with_reducible refine (num_any p b 13 1 1 rfl v V12 HD.out.rd HY.out (by decide) (by decide)).mono ?_); go_must (rintro e y1 ⟨rfl, h2, hk⟩; replace HD := Aside0.mk (HD.out.num h2 hk); clear c0 c1 c2 c3 c4 c5 c6 c7 c8 c9 c10 q0 q1 q2 q3 z10; have hx6 := HD.out.cell; obtain ⟨c0, c1, c2, c3, c4, c5, c6, c7, c8, c9⟩ := cel_at (x := ⟨gv b 0 1, gv b 1 2, gv b 3 4, gv b 7 1, gv b 8 1, gv b 9 2, gv b 11 2, 0, 0, 0, []⟩) (A := none) (c := 0) hx6; have c10 : y1.cell? ⟨g6, 10, none⟩ = some (.slice none 0 0) := blk_cell hx6 10; (try simp only at c0 c1 c2 c3 c4 c5 c6 c7 c8 c9); have z10 := blk_frozen hx6 10; have hx7 := HD.out.pts; have q0 : y1.cell? ⟨g7, 0, none⟩ = some (.bool true) := blk_cell hx7 0; have q1 : y1.cell? ⟨g7, 1, none⟩ = some (.bool true) := blk_cell hx7 1; have q2 : y1.cell? ⟨g7, 2, none⟩ = some (.bool false) := blk_cell hx7 2; have q3 : y1.cell? ⟨g7, 3, none⟩ = some (.bool true) := blk_cell hx7 3; clear hx6 hx7; clear h2 hk; rw [hnb.out.1]))
    | (go_at_call 41; go_must (refine (take_any p b 14 nb v y1 HD.out.rd (by have := hnb.out.2; omega)).mono ?_; rintro e y2 ⟨⟨A7, k7, rfl, hk7, hr7, hn7⟩, h2, hk⟩; replace HD := Aside0.mk (HD.out.num h2 hk); clear c0 c1 c2 c3 c4 c5 c6 c7 c8 c9 c10 q0 q1 q2 q3 z10; have hx6 := HD.out.cell; obtain ⟨c0, c1, c2, c3, c4, c5, c6, c7, c8, c9⟩ := cel_at (x := ⟨gv b 0 1, gv b 1 2, gv b 3 4, gv b 7 1, gv b 8 1, gv b 9 2, gv b 11 2, 0, 0, 0, []⟩) (A := none) (c := 0) hx6; have c10 : y2.cell? ⟨g6, 10, none⟩ = some (.slice none 0 0) := blk_cell hx6 10; (try simp only at c0 c1 c2 c3 c4 c5 c6 c7 c8 c9); have z10 := blk_frozen hx6 10; have hx7 := HD.out.pts; have q0 : y2.cell? ⟨g7, 0, none⟩ = some (.bool true) := blk_cell hx7 0; have q1 : y2.cell? ⟨g7, 1, none⟩ = some (.bool true) := blk_cell hx7 1; have q2 : y2.cell? ⟨g7, 2, none⟩ = some (.bool false) := blk_cell hx7 2; have q3 : y2.cell? ⟨g7, 3, none⟩ = some (.bool true) := blk_cell hx7 3; clear hx6 hx7; have HR7 := Aside0.mk hr7; have HN7 := Aside0.mk hn7; clear h2 hk hr7 hn7))
    | (go_at_call 40; go_must (refine (clone_any A7 k7 (tk b 14 nb) y2 (Kd.C_below HR7.out HD.out.rd.2.1) (by have h1 := tk_len b 14 nb; have h2 := hnb.out.2; omega) HN7.out).mono ?_; rintro e y3 ⟨⟨v8, rfl, ho⟩, hb⟩; obtain ⟨A8, k8, rfl, hk8, _⟩ := Ow_slice ho; have HO8 := Aside0.mk (Kd.R_lower ho HD.out.bel.size); have HK8 := Aside0.mk hk8; replace HD := Aside0.mk (HD.out.below hb); clear c0 c1 c2 c3 c4 c5 c6 c7 c8 c9 c10 q0 q1 q2 q3 z10; have hx6 := HD.out.cell; obtain ⟨c0, c1, c2, c3, c4, c5, c6, c7, c8, c9⟩ := cel_at (x := ⟨gv b 0 1, gv b 1 2, gv b 3 4, gv b 7 1, gv b 8 1, gv b 9 2, gv b 11 2, 0, 0, 0, []⟩) (A := none) (c := 0) hx6; have c10 : y3.cell? ⟨g6, 10, none⟩ = some (.slice none 0 0) := blk_cell hx6 10; (try simp only at c0 c1 c2 c3 c4 c5 c6 c7 c8 c9); have z10 := blk_frozen hx6 10; have hx7 := HD.out.pts; have q0 : y3.cell? ⟨g7, 0, none⟩ = some (.bool true) := blk_cell hx7 0; have q1 : y3.cell? ⟨g7, 1, none⟩ = some (.bool true) := blk_cell hx7 1; have q2 : y3.cell? ⟨g7, 2, none⟩ = some (.bool false) := blk_cell hx7 2; have q3 : y3.cell? ⟨g7, 3, none⟩ = some (.bool true) := blk_cell hx7 3; clear hx6 hx7; clear hb ho hk8)))
  obtain ⟨V16, hV16⟩ : ∃ W, W = (y3.setCell ⟨g6, 10, none⟩ (.slice A8 (tk b 14 nb).length k8)) := ⟨_, rfl⟩
  rw [← hV16]
  replace HD := Aside0.mk (show DS v w V16 p g6 g7 b (14 + nb) ⟨gv b 0 1, gv b 1 2, gv b 3 4, gv b 7 1, gv b 8 1, gv b 9 2, gv b 11 2, 0, 0, 0, tk b 14 nb⟩ A8 k8 #[.bool true, .bool true, .bool false, .bool true] by rw [hV16]; exact (HD.out.setBody HO8.out HK8.out))
  clear hV16; clear c0 c1 c2 c3 c4 c5 c6 c7 c8 c9 c10 q0 q1 q2 q3 z10
  replace HD := Aside0.mk (show DS v w V16 p g6 g7 b (14 + nb) x9 A8 k8 #[.bool true, .bool true, .bool false, .bool true] by rw [hx9.out]; exact HD.out)
  obtain ⟨hrd1, hrd2, A0, k0, hk0, hr0, hp0⟩ := HD.out.rd
  have r0 : V16.cell? ⟨p, 0, none⟩ = some (.slice A0 (b.length - (14 + nb)) k0) := blk_cell hp0 0
  have r1 : V16.cell? ⟨p, 1, none⟩ = some (.bool (decide (b.length < 14 + nb))) := blk_cell hp0 1
  have HR0 := Aside0.mk (And.intro hk0 hr0)
  clear hrd1 hrd2 hk0 hr0 hp0
  obtain ⟨lr, hlr⟩ : ∃ lr, lr = b.length - (14 + nb) := ⟨_, rfl⟩
  rw [← hlr] at r0
  have HLR := Aside0.mk hlr
  clear hlr
  have hx6 := HD.out.cell
  obtain ⟨c0, c1, c2, c3, c4, c5, c6, c7, c8, c9⟩ := cel_at (x := x9) (A := A8) (c := k8) hx6
  have c10 : V16.cell? ⟨g6, 10, none⟩ = some (.slice A8 x9.body.length k8) := blk_cell hx6 10
  (try simp only at c0 c1 c2 c3 c4 c5 c6 c7 c8 c9)
  have hx7 := HD.out.pts
  have q0 : V16.cell? ⟨g7, 0, none⟩ = some (.bool true) := blk_cell hx7 0
  have q1 : V16.cell? ⟨g7, 1, none⟩ = some (.bool true) := blk_cell hx7 1
  have q2 : V16.cell? ⟨g7, 2, none⟩ = some (.bool false) := blk_cell hx7 2
  have q3 : V16.cell? ⟨g7, 3, none⟩ = some (.bool true) := blk_cell hx7 3
  clear hx6 hx7
  have hxr := HD.out.res
  have t0 : V16.cell? ⟨w.heap.size, 0, none⟩ = some (.int .i64 0) := blk_cell hxr 0
  have t1 : V16.cell? ⟨w.heap.size, 1, none⟩ = some (.int .u64 0) := blk_cell hxr 1
  have t2 : V16.cell? ⟨w.heap.size, 2, none⟩ = some (.int .i64 0) := blk_cell hxr 2
  have t3 : V16.cell? ⟨w.heap.size, 3, none⟩ = some (.int .i64 0) := blk_cell hxr 3
  have t4 : V16.cell? ⟨w.heap.size, 4, none⟩ = some (.int .i64 0) := blk_cell hxr 4
  have t5 : V16.cell? ⟨w.heap.size, 5, none⟩ = some (.int .i64 0) := blk_cell hxr 5
  have t6 : V16.cell? ⟨w.heap.size, 6, none⟩ = some (.int .u64 0) := blk_cell hxr 6
  have t7 : V16.cell? ⟨w.heap.size, 7, none⟩ = some (.int .i64 0) := blk_cell hxr 7
  have t8 : V16.cell? ⟨w.heap.size, 8, none⟩ = some (.int .i64 0) := blk_cell hxr 8
  have t9 : V16.cell? ⟨w.heap.size, 9, none⟩ = some (.int .i64 0) := blk_cell hxr 9
  have t10 : V16.cell? ⟨w.heap.size, 10, none⟩ = some (.slice none 0 0) := blk_cell hxr 10
  have zt0 := blk_frozen hxr 0
  have zt1 := blk_frozen hxr 1
  have zt2 := blk_frozen hxr 2
  have zt3 := blk_frozen hxr 3
  have zt4 := blk_frozen hxr 4
  have zt5 := blk_frozen hxr 5
  have zt6 := blk_frozen hxr 6
  have zt7 := blk_frozen hxr 7
  have zt8 := blk_frozen hxr 8
  have zt9 := blk_frozen hxr 9
  have zt10 := blk_frozen hxr 10
  clear hxr
  cases hs : decide (b.length < 14 + nb) with
  | true =>
    rw [hs] at r1
    have HE := Aside0.mk (show res = (cel0, [], 14) by rw [hres.out, if_pos (of_decide_eq_true hs)])
    clear hs
    go_wp2
    obtain ⟨W9, hW9⟩ : ∃ W9, W9 = (((((((((((V16.setCell ⟨w.heap.size, 0, none⟩ (.int .i64 0)).setCell ⟨w.heap.size, 1, none⟩ (.int .u64 0)).setCell ⟨w.heap.size, 2, none⟩ (.int .i64 0)).setCell ⟨w.heap.size, 3, none⟩ (.int .i64 0)).setCell ⟨w.heap.size, 4, none⟩ (.int .i64 0)).setCell ⟨w.heap.size, 5, none⟩ (.int .i64 0)).setCell ⟨w.heap.size, 6, none⟩ (.int .u64 0)).setCell ⟨w.heap.size, 7, none⟩ (.int .i64 0)).setCell ⟨w.heap.size, 8, none⟩ (.int .i64 0)).setCell ⟨w.heap.size, 9, none⟩ (.int .i64 0)).setCell ⟨w.heap.size, 10, none⟩ (.slice none 0 0)) := ⟨_, rfl⟩
    rw [← hW9]
    have hr9 : W9.heap[w.heap.size]? = some (.cells (celA cel0 none 0) 30 (0, 0)) := by rw [hW9]; exact putCell_at (x := cel0) (A := none) (c := 0) HD.out.res
    have hb9 : Below w.heap.size w W9 := by rw [hW9]; exact putCell_below (x := cel0) (A := none) (c := 0) HD.out.bel (Nat.le_refl _)
    clear hW9 t0 t1 t2 t3 t4 t5 t6 t7 t8 t9 t10
    have t0 : W9.cell? ⟨w.heap.size, 0, none⟩ = some (.int .i64 0) := blk_cell hr9 0
    have t1 : W9.cell? ⟨w.heap.size, 1, none⟩ = some (.int .u64 0) := blk_cell hr9 1
    have t2 : W9.cell? ⟨w.heap.size, 2, none⟩ = some (.int .i64 0) := blk_cell hr9 2
    have t3 : W9.cell? ⟨w.heap.size, 3, none⟩ = some (.int .i64 0) := blk_cell hr9 3
    have t4 : W9.cell? ⟨w.heap.size, 4, none⟩ = some (.int .i64 0) := blk_cell hr9 4
    have t5 : W9.cell? ⟨w.heap.size, 5, none⟩ = some (.int .i64 0) := blk_cell hr9 5
    have t6 : W9.cell? ⟨w.heap.size, 6, none⟩ = some (.int .u64 0) := blk_cell hr9 6
    have t7 : W9.cell? ⟨w.heap.size, 7, none⟩ = some (.int .i64 0) := blk_cell hr9 7
    have t8 : W9.cell? ⟨w.heap.size, 8, none⟩ = some (.int .i64 0) := blk_cell hr9 8
    have t9 : W9.cell? ⟨w.heap.size, 9, none⟩ = some (.int .i64 0) := blk_cell hr9 9
    have t10 : W9.cell? ⟨w.heap.size, 10, none⟩ = some (.slice none 0 0) := blk_cell hr9 10
    refine bodyPost_ret (v := .tuple #[.agg (celA cel0 none 0), .slice none 0 0, .int .i64 14]) (by simp [results, Try.results27, go_sem, cel0, t0, t1, t2, t3, t4, t5, t6, t7, t8, t9, t10]) rfl ?_
    rw [HE.out]
    exact ⟨⟨none, 0, none, 0, rfl, Kd.R_nil _ _ _ _ _, RdB_nil _, Nat.le_refl _⟩, hb9⟩
  | false =>
    rw [hs] at r1
    have HS := Aside0.mk (of_decide_eq_false hs)
    clear hs
    cases hq : rightB x9 with
    | false =>
      have HE := Aside0.mk (show res = (cel0, [], 3) by rw [hres.out, if_neg HS.out, if_neg (by rw [hq]; simp)])
      go_wp2_with (go_at_call 34; go_must (refine (right_any x9 A8 k8 _ (Ow_rd HD.out.own).2.2 hwf.out.2.2).mono ?_; rintro e y9 ⟨rfl, hb⟩; rw [hq]; replace HD := Aside0.mk (HD.out.below hb); replace r0 := pw_cell_below hb r0; replace r1 := pw_cell_below hb r1; clear c0 c1 c2 c3 c4 c5 c6 c7 c8 c9 c10 q0 q1 q2 q3 t0 zt0 t1 zt1 t2 zt2 t3 zt3 t4 zt4 t5 zt5 t6 zt6 t7 zt7 t8 zt8 t9 zt9 t10 zt10; have hx6 := HD.out.cell; obtain ⟨c0, c1, c2, c3, c4, c5, c6, c7, c8, c9⟩ := cel_at (x := x9) (A := A8) (c := k8) hx6; have c10 : y9.cell? ⟨g6, 10, none⟩ = some (.slice A8 x9.body.length k8) := blk_cell hx6 10; (try simp only at c0 c1 c2 c3 c4 c5 c6 c7 c8 c9); have hx7 := HD.out.pts; have q0 : y9.cell? ⟨g7, 0, none⟩ = some (.bool true) := blk_cell hx7 0; have q1 : y9.cell? ⟨g7, 1, none⟩ = some (.bool true) := blk_cell hx7 1; have q2 : y9.cell? ⟨g7, 2, none⟩ = some (.bool false) := blk_cell hx7 2; have q3 : y9.cell? ⟨g7, 3, none⟩ = some (.bool true) := blk_cell hx7 3; clear hx6 hx7; have hxr := HD.out.res; have t0 : y9.cell? ⟨w.heap.size, 0, none⟩ = some (.int .i64 0) := blk_cell hxr 0; have t1 : y9.cell? ⟨w.heap.size, 1, none⟩ = some (.int .u64 0) := blk_cell hxr 1; have t2 : y9.cell? ⟨w.heap.size, 2, none⟩ = some (.int .i64 0) := blk_cell hxr 2; have t3 : y9.cell? ⟨w.heap.size, 3, none⟩ = some (.int .i64 0) := blk_cell hxr 3; have t4 : y9.cell? ⟨w.heap.size, 4, none⟩ = some (.int .i64 0) := blk_cell hxr 4; have t5 : y9.cell? ⟨w.heap.size, 5, none⟩ = some (.int .i64 0) := blk_cell hxr 5; have t6 : y9.cell? ⟨w.heap.size, 6, none⟩ = some (.int .u64 0) := blk_cell hxr 6; have t7 : y9.cell? ⟨w.heap.size, 7, none⟩ = some (.int .i64 0) := blk_cell hxr 7; have t8 : y9.cell? ⟨w.heap.size, 8, none⟩ = some (.int .i64 0) := blk_cell hxr 8; have t9 : y9.cell? ⟨w.heap.size, 9, none⟩ = some (.int .i64 0) := blk_cell hxr 9; have t10 : y9.cell? ⟨w.heap.size, 10, none⟩ = some (.slice none 0 0) := blk_cell hxr 10; have zt0 := blk_frozen hxr 0; have zt1 := blk_frozen hxr 1; have zt2 := blk_frozen hxr 2; have zt3 := blk_frozen hxr 3; have zt4 := blk_frozen hxr 4; have zt5 := blk_frozen hxr 5; have zt6 := blk_frozen hxr 6; have zt7 := blk_frozen hxr 7; have zt8 := blk_frozen hxr 8; have zt9 := blk_frozen hxr 9; have zt10 := blk_frozen hxr 10; clear hxr; clear hb))
      obtain ⟨W9, hW9⟩ : ∃ W9, W9 = (((((((((((y9.setCell ⟨w.heap.size, 0, none⟩ (.int .i64 0)).setCell ⟨w.heap.size, 1, none⟩ (.int .u64 0)).setCell ⟨w.heap.size, 2, none⟩ (.int .i64 0)).setCell ⟨w.heap.size, 3, none⟩ (.int .i64 0)).setCell ⟨w.heap.size, 4, none⟩ (.int .i64 0)).setCell ⟨w.heap.size, 5, none⟩ (.int .i64 0)).setCell ⟨w.heap.size, 6, none⟩ (.int .u64 0)).setCell ⟨w.heap.size, 7, none⟩ (.int .i64 0)).setCell ⟨w.heap.size, 8, none⟩ (.int .i64 0)).setCell ⟨w.heap.size, 9, none⟩ (.int .i64 0)).setCell ⟨w.heap.size, 10, none⟩ (.slice none 0 0)) := ⟨_, rfl⟩
      rw [← hW9]
      have hr9 : W9.heap[w.heap.size]? = some (.cells (celA cel0 none 0) 30 (0, 0)) := by rw [hW9]; exact putCell_at (x := cel0) (A := none) (c := 0) HD.out.res
      have hb9 : Below w.heap.size w W9 := by rw [hW9]; exact putCell_below (x := cel0) (A := none) (c := 0) HD.out.bel (Nat.le_refl _)
      clear hW9 t0 t1 t2 t3 t4 t5 t6 t7 t8 t9 t10
      have t0 : W9.cell? ⟨w.heap.size, 0, none⟩ = some (.int .i64 0) := blk_cell hr9 0
      have t1 : W9.cell? ⟨w.heap.size, 1, none⟩ = some (.int .u64 0) := blk_cell hr9 1
      have t2 : W9.cell? ⟨w.heap.size, 2, none⟩ = some (.int .i64 0) := blk_cell hr9 2
      have t3 : W9.cell? ⟨w.heap.size, 3, none⟩ = some (.int .i64 0) := blk_cell hr9 3
      have t4 : W9.cell? ⟨w.heap.size, 4, none⟩ = some (.int .i64 0) := blk_cell hr9 4
      have t5 : W9.cell? ⟨w.heap.size, 5, none⟩ = some (.int .i64 0) := blk_cell hr9 5
      have t6 : W9.cell? ⟨w.heap.size, 6, none⟩ = some (.int .u64 0) := blk_cell hr9 6
      have t7 : W9.cell? ⟨w.heap.size, 7, none⟩ = some (.int .i64 0) := blk_cell hr9 7
      have t8 : W9.cell? ⟨w.heap.size, 8, none⟩ = some (.int .i64 0) := blk_cell hr9 8
      have t9 : W9.cell? ⟨w.heap.size, 9, none⟩ = some (.int .i64 0) := blk_cell hr9 9
      have t10 : W9.cell? ⟨w.heap.size, 10, none⟩ = some (.slice none 0 0) := blk_cell hr9 10
      refine bodyPost_ret (v := .tuple #[.agg (celA cel0 none 0), .slice none 0 0, .int .i64 3]) (by simp [results, Try.results27, go_sem, cel0, t0, t1, t2, t3, t4, t5, t6, t7, t8, t9, t10]) rfl ?_
      rw [HE.out]
      exact ⟨⟨none, 0, none, 0, rfl, Kd.R_nil _ _ _ _ _, RdB_nil _, Nat.le_refl _⟩, hb9⟩
    | true =>
      have HE := Aside0.mk (show res = (x9, b.drop (14 + nb), 0) by rw [hres.out, if_neg HS.out, if_pos hq])
      go_wp2_with (go_at_call 34; go_must (refine (right_any x9 A8 k8 _ (Ow_rd HD.out.own).2.2 hwf.out.2.2).mono ?_; rintro e y9 ⟨rfl, hb⟩; rw [hq]; replace HD := Aside0.mk (HD.out.below hb); replace r0 := pw_cell_below hb r0; replace r1 := pw_cell_below hb r1; clear c0 c1 c2 c3 c4 c5 c6 c7 c8 c9 c10 q0 q1 q2 q3 t0 zt0 t1 zt1 t2 zt2 t3 zt3 t4 zt4 t5 zt5 t6 zt6 t7 zt7 t8 zt8 t9 zt9 t10 zt10; have hx6 := HD.out.cell; obtain ⟨c0, c1, c2, c3, c4, c5, c6, c7, c8, c9⟩ := cel_at (x := x9) (A := A8) (c := k8) hx6; have c10 : y9.cell? ⟨g6, 10, none⟩ = some (.slice A8 x9.body.length k8) := blk_cell hx6 10; (try simp only at c0 c1 c2 c3 c4 c5 c6 c7 c8 c9); have hx7 := HD.out.pts; have q0 : y9.cell? ⟨g7, 0, none⟩ = some (.bool true) := blk_cell hx7 0; have q1 : y9.cell? ⟨g7, 1, none⟩ = some (.bool true) := blk_cell hx7 1; have q2 : y9.cell? ⟨g7, 2, none⟩ = some (.bool false) := blk_cell hx7 2; have q3 : y9.cell? ⟨g7, 3, none⟩ = some (.bool true) := blk_cell hx7 3; clear hx6 hx7; have hxr := HD.out.res; have t0 : y9.cell? ⟨w.heap.size, 0, none⟩ = some (.int .i64 0) := blk_cell hxr 0; have t1 : y9.cell? ⟨w.heap.size, 1, none⟩ = some (.int .u64 0) := blk_cell hxr 1; have t2 : y9.cell? ⟨w.heap.size, 2, none⟩ = some (.int .i64 0) := blk_cell hxr 2; have t3 : y9.cell? ⟨w.heap.size, 3, none⟩ = some (.int .i64 0) := blk_cell hxr 3; have t4 : y9.cell? ⟨w.heap.size, 4, none⟩ = some (.int .i64 0) := blk_cell hxr 4; have t5 : y9.cell? ⟨w.heap.size, 5, none⟩ = some (.int .i64 0) := blk_cell hxr 5; have t6 : y9.cell? ⟨w.heap.size, 6, none⟩ = some (.int .u64 0) := blk_cell hxr 6; have t7 : y9.cell? ⟨w.heap.size, 7, none⟩ = some (.int .i64 0) := blk_cell hxr 7; have t8 : y9.cell? ⟨w.heap.size, 8, none⟩ = some (.int .i64 0) := blk_cell hxr 8; have t9 : y9.cell? ⟨w.heap.size, 9, none⟩ = some (.int .i64 0) := blk_cell hxr 9; have t10 : y9.cell? ⟨w.heap.size, 10, none⟩ = some (.slice none 0 0) := blk_cell hxr 10; have zt0 := blk_frozen hxr 0; have zt1 := blk_frozen hxr 1; have zt2 := blk_frozen hxr 2; have zt3 := blk_frozen hxr 3; have zt4 := blk_frozen hxr 4; have zt5 := blk_frozen hxr 5; have zt6 := blk_frozen hxr 6; have zt7 := blk_frozen hxr 7; have zt8 := blk_frozen hxr 8; have zt9 := blk_frozen hxr 9; have zt10 := blk_frozen hxr 10; clear hxr; clear hb))
      go_wp2_with (fail)
      refine start_ (n := 8) (S := fun w' => w'.heap[g6]? = some (.cells (celA x9 A8 k8) 30 (0, 0)) ∧ w'.cell? ⟨p, 0, none⟩ = some (.slice A0 lr k0)) (ds := []) #[false, false, false, false, false, false, false, false] (by kernel_rfl) rfl rfl ⟨(HD.out.below (below_drew (Below.refl _ _))).cell, pw_cell_below (below_drew (Below.refl _ _)) r0⟩ (fun hHeld => ?_); refine with_tab tabD21_ok (fun HT_ => ?_)
      have hb : Below y9.heap.size y9 y9.drew := below_drew (Below.refl _ _)
      skip
      clear hb
      refine take_ (i := 0) (N := some 81) (v := ?_) (a' := ?_) #[true, false, false, false, false, false, false, false] rfl rfl (take_of HT_.out (by kernel_rfl)) (fun _ _ _ h => h) (Or.inl ⟨by rfl, ?_⟩) hHeld ?_ ?_
      rotate_left
      · intro w' hw'
        obtain ⟨s0, s1⟩ := hw'; obtain ⟨c0, c1, c2, c3, c4, c5, c6, c7, c8, c9⟩ := cel_at (x := x9) (A := A8) (c := k8) s0; have c10 : w'.cell? ⟨g6, 10, none⟩ = some (.slice A8 x9.body.length k8) := blk_cell s0 10
        go_simp
        with_reducible rfl
      rotate_left
      · simp only [Act.put, List.setIfInBounds_toArray, List.set_cons_zero, List.set_cons_succ]
        rfl
      refine pure_ (i := 1) (N := some 82) (v := ?_) (a' := ?_) #[true, true, false, false, false, false, false, false] rfl rfl (any_of HT_.out (by kernel_rfl)) (fun _ _ _ h => h) (Or.inl ⟨by rfl, ?_⟩) ?_ ?_
      rotate_left
      · intro w'
        go_simp
        with_reducible rfl
      rotate_left
      · simp only [Act.put, List.setIfInBounds_toArray, List.set_cons_zero, List.set_cons_succ]
        rfl
      refine pure_ (i := 2) (N := some 83) (v := ?_) (a' := ?_) #[true, true, true, false, false, false, false, false] rfl rfl (any_of HT_.out (by kernel_rfl)) (fun _ _ _ h => h) (Or.inl ⟨by rfl, ?_⟩) ?_ ?_
      rotate_left
      · intro w'
        go_simp
        with_reducible rfl
      rotate_left
      · simp only [Act.put, List.setIfInBounds_toArray, List.set_cons_zero, List.set_cons_succ]
        rfl
      refine pure_ (i := 3) (N := some 84) (v := ?_) (a' := ?_) #[true, true, true, true, false, false, false, false] rfl rfl (any_of HT_.out (by kernel_rfl)) (fun _ _ _ h => h) (Or.inl ⟨by rfl, ?_⟩) ?_ ?_
      rotate_left
      · intro w'
        go_simp
        with_reducible rfl
      rotate_left
      · simp only [Act.put, List.setIfInBounds_toArray, List.set_cons_zero, List.set_cons_succ]
        rfl
      refine take_ (i := 4) (N := some 85) (v := ?_) (a' := ?_) #[true, true, true, true, true, false, false, false] rfl rfl (take_of HT_.out (by kernel_rfl)) (fun _ _ _ h => h) (Or.inl ⟨by rfl, ?_⟩) hHeld ?_ ?_
      rotate_left
      · intro w' hw'
        obtain ⟨s0, s1⟩ := hw'
        go_simp
        with_reducible rfl
      rotate_left
      · simp only [Act.put, List.setIfInBounds_toArray, List.set_cons_zero, List.set_cons_succ]
        rfl
      refine one_ (i := 5) (N := none) #[true, true, true, true, true, true, false, false] rfl rfl (one_of HT_.out (by kernel_rfl)) (by decide) (fun Kq_ hK_ => ?_)
      refine skip_ (w1 := ?_) (by rfl) rfl ?_ ?_
      rotate_left
      · go_simp
        first | done | rfl
      refine hK_.out _ _ ⟨put_blk (W := y9) (g := w.heap.size) (x := x9) (A := A8) (c := k8) (Nat.ne_of_gt (Nat.lt_trans hord.1 hord.2.1)) HD.out.cell, put_keeps (W := y9) (g := w.heap.size) (x := x9) (A := A8) (c := k8) (Nat.ne_of_gt hord.1) r0⟩ (fun hHeld => ?_)
      clear hK_ Kq_
      refine pure_ (i := 6) (N := some 3) (v := ?_) (a' := ?_) #[true, true, true, true, true, true, true, false] rfl rfl (any_of HT_.out (by kernel_rfl)) (fun _ _ _ h => h) (Or.inl ⟨by rfl, ?_⟩) ?_ ?_
      rotate_left
      · intro w'
        go_simp
        with_reducible rfl
      rotate_left
      · simp only [Act.put, List.setIfInBounds_toArray, List.set_cons_zero, List.set_cons_succ]
        rfl
      refine pure_ (i := 7) (N := some 4) (v := ?_) (a' := ?_) #[true, true, true, true, true, true, true, true] rfl rfl (any_of HT_.out (by kernel_rfl)) (fun _ _ _ h => h) (Or.inl ⟨by rfl, ?_⟩) ?_ ?_
      rotate_left
      · intro w'
        go_simp
        with_reducible rfl
      rotate_left
      · simp only [Act.put, List.setIfInBounds_toArray, List.set_cons_zero, List.set_cons_succ]
        rfl
      refine done_ (done_of HT_.out (by kernel_rfl)) ?_
      clear HT_ hHeld
      go_wp2
      obtain ⟨W9, hW9⟩ : ∃ W9, W9 = (putCell y9 w.heap.size x9 A8 k8).drew := ⟨_, rfl⟩
      rw [← hW9]
      have hr9 : W9.heap[w.heap.size]? = some (.cells (celA x9 A8 k8) 30 (0, 0)) := by rw [hW9]; exact put_at_ HD.out.res
      have hb9 : Below w.heap.size w W9 := by rw [hW9]; exact put_below_ HD.out.bel (Nat.le_refl _)
      have ho9 : OwB W9 w.heap.size (.slice A8 x9.body.length k8) x9.body := by rw [hW9]; exact own_put HD.out.own HD.out.res (by decide) (fun k hk => put_far_ hk)
      clear hW9 t0 t1 t2 t3 t4 t5 t6 t7 t8 t9 t10
      have t0 : W9.cell? ⟨w.heap.size, 0, none⟩ = some (.int .i64 x9.kind) := blk_cell hr9 0
      have t1 : W9.cell? ⟨w.heap.size, 1, none⟩ = some (.int .u64 x9.num) := blk_cell hr9 1
      have t2 : W9.cell? ⟨w.heap.size, 2, none⟩ = some (.int .i64 x9.min) := blk_cell hr9 2
      have t3 : W9.cell? ⟨w.heap.size, 3, none⟩ = some (.int .i64 x9.br) := blk_cell hr9 3
      have t4 : W9.cell? ⟨w.heap.size, 4, none⟩ = some (.int .i64 x9.vol) := blk_cell hr9 4
      have t5 : W9.cell? ⟨w.heap.size, 5, none⟩ = some (.int .i64 x9.blk) := blk_cell hr9 5
      have t6 : W9.cell? ⟨w.heap.size, 6, none⟩ = some (.int .u64 x9.ref) := blk_cell hr9 6
      have t7 : W9.cell? ⟨w.heap.size, 7, none⟩ = some (.int .i64 x9.fr) := blk_cell hr9 7
      have t8 : W9.cell? ⟨w.heap.size, 8, none⟩ = some (.int .i64 x9.to) := blk_cell hr9 8
      have t9 : W9.cell? ⟨w.heap.size, 9, none⟩ = some (.int .i64 x9.un) := blk_cell hr9 9
      have t10 : W9.cell? ⟨w.heap.size, 10, none⟩ = some (.slice A8 x9.body.length k8) := blk_cell hr9 10
      refine bodyPost_ret (v := .tuple #[.agg (celA x9 A8 k8), .slice A0 lr k0, .int .i64 0]) (by simp [results, Try.results27, go_sem, t0, t1, t2, t3, t4, t5, t6, t7, t8, t9, t10]) rfl ?_
      rw [HE.out]
      have hdl : (b.drop (14 + nb)).length = lr := by rw [List.length_drop, HLR.out]
      refine ⟨⟨A8, k8, A0, k0, by rw [hdl], ho9, ?_, by rw [hdl, HLR.out]; exact HR0.out.1⟩, hb9⟩
      show Kd.C _ _ _ (b.drop (14 + nb)).length _
      rw [List.length_drop]
      exact HR0.out.2
set_option maxHeartbeats 6400000 in
set_option maxRecDepth 100000 in
theorem decode_pr (A : Option Addr) (c : Nat) (b : List Int) (v w : World) (hv : Below v.heap.size v w) (hr : RdB v A b) (hc : b.length ≤ c) (hy : Byt b) (hl : b.length ≤ 1000) (h0 : b.length ≠ 0) (hV : Aside0 (partsV (gv b 0 1) = .agg #[.bool true, .bool true, .bool false, .bool false])) (hK : Aside0 (hasKind (gv b 0 1) = true)) (nb : Nat) (hnb : Aside0 (nb = 0))
    (x9 : Cel) (hx9 : Aside0 (x9 = ⟨gv b 0 1, gv b 1 2, gv b 3 4, gv b 7 1, gv b 8 1, gv b 9 2, gv b 11 2, 0, 0, 0, []⟩)) (hwf : Aside0 (CelWf x9)) (res : Cel × List Int × Int)
    (hres : Aside0 (res = if b.length < 13 then (cel0, [], 14) else if rightB x9 then (x9, b.drop (13), 0) else (cel0, [], 3))) :
    Calls Try.prog 27 #[.slice A b.length c] w fun e w' => (∃ A1 c1 A2 c2, e = .returned (.tuple #[.agg (celA res.1 A1 c1), .slice A2 res.2.1.length c2, .int .i64 res.2.2]) ∧ OwB w' w.heap.size (.slice A1 res.1.body.length c1) res.1.body ∧ RdB v A2 res.2.1 ∧ res.2.1.length ≤ c2) ∧ Below w.heap.size w w' := by
  have hmx := C_max hr
  have HR := Aside0.mk hr
  have HVW := Aside0.mk hv
  have HY := Aside0.mk hy
  have HC := Aside0.mk hc
  have e1 : IntKind.u64.wrap (gv b 1 2) = gv b 1 2 := wrap_u64_in _ (gv_range hy 1 2).1 (by have := (gv_range hy 1 2).2; omega)
  have e11 : IntKind.u64.wrap (gv b 11 2) = gv b 11 2 := wrap_u64_in _ (gv_range hy 11 2).1 (by have := (gv_range hy 11 2).2; omega)
  clear hr hy hc hv
  go_enter Try.func27, Try.ntmps27
  go_upto_region 8 with (first | (go_at_call 39; go_must (refine (num_any (w.heap.size + 1) b 0 1 1 rfl v _ (dec_start HVW.out HR.out HC.out) HY.out (by decide) (by decide)).mono ?_; rintro e w1 ⟨rfl, h2, hk⟩; have HRD := Aside0.mk h2; have HK1 := Aside0.mk hk; clear h2 hk)) | (go_at_call 36; go_must (refine (has_any (gv b 0 1) _).mono ?_; rintro e w2 ⟨rfl, hb⟩; rw [hV.out, hK.out]; have HB2 := Aside0.mk hb; clear hb)))
  obtain ⟨W3, hW3⟩ : ∃ W3, W3 = w2.alloc (.cells #[.bool true, .bool true, .bool false, .bool false] 84) := ⟨_, rfl⟩
  rw [← hW3]
  have HD := Aside0.mk (show DS v w W3 (w.heap.size + 1) w1.heap.size w2.heap.size b 1 ⟨gv b 0 1, 0, 0, 0, 0, 0, 0, 0, 0, 0, []⟩ none 0 #[.bool true, .bool true, .bool false, .bool false] by rw [hW3]; exact dec_first HVW.out HRD.out HK1.out HB2.out)
  obtain ⟨p, hp⟩ : ∃ p, p = w.heap.size + 1 := ⟨_, rfl⟩
  obtain ⟨g6, hg6⟩ : ∃ g, g = w1.heap.size := ⟨_, rfl⟩
  obtain ⟨g7, hg7⟩ : ∃ g, g = w2.heap.size := ⟨_, rfl⟩
  rw [← hp, ← hg6, ← hg7] at HD ⊢
  have hord := HD.out.ord
  clear hW3 HRD HK1 HB2 hp hg6 hg7
  have hx6 := HD.out.cell
  obtain ⟨c0, c1, c2, c3, c4, c5, c6, c7, c8, c9⟩ := cel_at (x := ⟨gv b 0 1, 0, 0, 0, 0, 0, 0, 0, 0, 0, []⟩) (A := none) (c := 0) hx6
  have c10 : W3.cell? ⟨g6, 10, none⟩ = some (.slice none 0 0) := blk_cell hx6 10
  (try simp only at c0 c1 c2 c3 c4 c5 c6 c7 c8 c9)
  have z1 := blk_frozen hx6 1
  have z2 := blk_frozen hx6 2
  have hx7 := HD.out.pts
  have q0 : W3.cell? ⟨g7, 0, none⟩ = some (.bool true) := blk_cell hx7 0
  have q1 : W3.cell? ⟨g7, 1, none⟩ = some (.bool true) := blk_cell hx7 1
  have q2 : W3.cell? ⟨g7, 2, none⟩ = some (.bool false) := blk_cell hx7 2
  have q3 : W3.cell? ⟨g7, 3, none⟩ = some (.bool false) := blk_cell hx7 3
  clear hx6 hx7
  go_upto_region 10 with (first
    | (go_at_call 39; (with_reducible refine (num_any p b 1 2 2 rfl v W3 HD.out.rd HY.out (by decide) (by decide)).mono ?_); go_must (rintro e y1 ⟨rfl, h2, hk⟩; replace HD := Aside0.mk (HD.out.num h2 hk); clear c0 c1 c2 c3 c4 c5 c6 c7 c8 c9 c10 q0 q1 q2 q3 z1 z2; have hx6 := HD.out.cell; obtain ⟨c0, c1, c2, c3, c4, c5, c6, c7, c8, c9⟩ := cel_at (x := ⟨gv b 0 1, 0, 0, 0, 0, 0, 0, 0, 0, 0, []⟩) (A := none) (c := 0) hx6; have c10 : y1.cell? ⟨g6, 10, none⟩ = some (.slice none 0 0) := blk_cell hx6 10; (try simp only at c0 c1 c2 c3 c4 c5 c6 c7 c8 c9); have z1 := blk_frozen hx6 1; have z2 := blk_frozen hx6 2; have hx7 := HD.out.pts; have q0 : y1.cell? ⟨g7, 0, none⟩ = some (.bool true) := blk_cell hx7 0; have q1 : y1.cell? ⟨g7, 1, none⟩ = some (.bool true) := blk_cell hx7 1; have q2 : y1.cell? ⟨g7, 2, none⟩ = some (.bool false) := blk_cell hx7 2; have q3 : y1.cell? ⟨g7, 3, none⟩ = some (.bool false) := blk_cell hx7 3; clear hx6 hx7; clear h2 hk))
    | (go_at_call 39; (with_reducible refine (num_any p b 3 4 4 rfl v y1 HD.out.rd HY.out (by decide) (by decide)).mono ?_); go_must (rintro e y2 ⟨rfl, h2, hk⟩; replace HD := Aside0.mk (HD.out.num h2 hk); clear c0 c1 c2 c3 c4 c5 c6 c7 c8 c9 c10 q0 q1 q2 q3 z1 z2; have hx6 := HD.out.cell; obtain ⟨c0, c1, c2, c3, c4, c5, c6, c7, c8, c9⟩ := cel_at (x := ⟨gv b 0 1, 0, 0, 0, 0, 0, 0, 0, 0, 0, []⟩) (A := none) (c := 0) hx6; have c10 : y2.cell? ⟨g6, 10, none⟩ = some (.slice none 0 0) := blk_cell hx6 10; (try simp only at c0 c1 c2 c3 c4 c5 c6 c7 c8 c9); have z1 := blk_frozen hx6 1; have z2 := blk_frozen hx6 2; have hx7 := HD.out.pts; have q0 : y2.cell? ⟨g7, 0, none⟩ = some (.bool true) := blk_cell hx7 0; have q1 : y2.cell? ⟨g7, 1, none⟩ = some (.bool true) := blk_cell hx7 1; have q2 : y2.cell? ⟨g7, 2, none⟩ = some (.bool false) := blk_cell hx7 2; have q3 : y2.cell? ⟨g7, 3, none⟩ = some (.bool false) := blk_cell hx7 3; clear hx6 hx7; clear h2 hk)))
  obtain ⟨V8, hV8⟩ : ∃ W, W = ((y2.setCell ⟨g6, 1, none⟩ (.int .u64 (gv b 1 2))).setCell ⟨g6, 2, none⟩ (.int .i64 (gv b 3 4))) := ⟨_, rfl⟩
  rw [← hV8]
  replace HD := Aside0.mk (show DS v w V8 p g6 g7 b (7) ⟨gv b 0 1, gv b 1 2, gv b 3 4, 0, 0, 0, 0, 0, 0, 0, []⟩ none 0 #[.bool true, .bool true, .bool false, .bool false] by rw [hV8]; exact ((HD.out.set_ 1 (.int .u64 (gv b 1 2)) (x' := ⟨gv b 0 1, gv b 1 2, 0, 0, 0, 0, 0, 0, 0, 0, []⟩) rfl rfl).set_ 2 (.int .i64 (gv b 3 4)) (x' := ⟨gv b 0 1, gv b 1 2, gv b 3 4, 0, 0, 0, 0, 0, 0, 0, []⟩) rfl rfl))
  clear hV8; clear c0 c1 c2 c3 c4 c5 c6 c7 c8 c9 c10 q0 q1 q2 q3 z1 z2
  have hx6 := HD.out.cell
  obtain ⟨c0, c1, c2, c3, c4, c5, c6, c7, c8, c9⟩ := cel_at (x := ⟨gv b 0 1, gv b 1 2, gv b 3 4, 0, 0, 0, 0, 0, 0, 0, []⟩) (A := none) (c := 0) hx6
  have c10 : V8.cell? ⟨g6, 10, none⟩ = some (.slice none 0 0) := blk_cell hx6 10
  (try simp only at c0 c1 c2 c3 c4 c5 c6 c7 c8 c9)
  have z3 := blk_frozen hx6 3
  have z4 := blk_frozen hx6 4
  have z5 := blk_frozen hx6 5
  have hx7 := HD.out.pts
  have q0 : V8.cell? ⟨g7, 0, none⟩ = some (.bool true) := blk_cell hx7 0
  have q1 : V8.cell? ⟨g7, 1, none⟩ = some (.bool true) := blk_cell hx7 1
  have q2 : V8.cell? ⟨g7, 2, none⟩ = some (.bool false) := blk_cell hx7 2
  have q3 : V8.cell? ⟨g7, 3, none⟩ = some (.bool false) := blk_cell hx7 3
  clear hx6 hx7
  go_upto_region 12 with (first
    | (go_at_call 39; (with_reducible refine (num_any p b 7 1 1 rfl v V8 HD.out.rd HY.out (by decide) (by decide)).mono ?_); go_must (rintro e y1 ⟨rfl, h2, hk⟩; replace HD := Aside0.mk (HD.out.num h2 hk); clear c0 c1 c2 c3 c4 c5 c6 c7 c8 c9 c10 q0 q1 q2 q3 z3 z4 z5; have hx6 := HD.out.cell; obtain ⟨c0, c1, c2, c3, c4, c5, c6, c7, c8, c9⟩ := cel_at (x := ⟨gv b 0 1, gv b 1 2, gv b 3 4, 0, 0, 0, 0, 0, 0, 0, []⟩) (A := none) (c := 0) hx6; have c10 : y1.cell? ⟨g6, 10, none⟩ = some (.slice none 0 0) := blk_cell hx6 10; (try simp only at c0 c1 c2 c3 c4 c5 c6 c7 c8 c9); have z3 := blk_frozen hx6 3; have z4 := blk_frozen hx6 4; have z5 := blk_frozen hx6 5; have hx7 := HD.out.pts; have q0 : y1.cell? ⟨g7, 0, none⟩ = some (.bool true) := blk_cell hx7 0; have q1 : y1.cell? ⟨g7, 1, none⟩ = some (.bool true) := blk_cell hx7 1; have q2 : y1.cell? ⟨g7, 2, none⟩ = some (.bool false) := blk_cell hx7 2; have q3 : y1.cell? ⟨g7, 3, none⟩ = some (.bool false) := blk_cell hx7 3; clear hx6 hx7; clear h2 hk))
    | (go_at_call 39; (with_reducible refine (num_any p b 8 1 1 rfl v y1 HD.out.rd HY.out (by decide) (by decide)).mono ?_); go_must (rintro e y2 ⟨rfl, h2, hk⟩; replace HD := Aside0.mk (HD.out.num h2 hk); clear c0 c1 c2 c3 c4 c5 c6 c7 c8 c9 c10 q0 q1 q2 q3 z3 z4 z5; have hx6 := HD.out.cell; obtain ⟨c0, c1, c2, c3, c4, c5, c6, c7, c8, c9⟩ := cel_at (x := ⟨gv b 0 1, gv b 1 2, gv b 3 4, 0, 0, 0, 0, 0, 0, 0, []⟩) (A := none) (c := 0) hx6; have c10 : y2.cell? ⟨g6, 10, none⟩ = some (.slice none 0 0) := blk_cell hx6 10; (try simp only at c0 c1 c2 c3 c4 c5 c6 c7 c8 c9); have z3 := blk_frozen hx6 3; have z4 := blk_frozen hx6 4; have z5 := blk_frozen hx6 5; have hx7 := HD.out.pts; have q0 : y2.cell? ⟨g7, 0, none⟩ = some (.bool true) := blk_cell hx7 0; have q1 : y2.cell? ⟨g7, 1, none⟩ = some (.bool true) := blk_cell hx7 1; have q2 : y2.cell? ⟨g7, 2, none⟩ = some (.bool false) := blk_cell hx7 2; have q3 : y2.cell? ⟨g7, 3, none⟩ = some (.bool false) := blk_cell hx7 3; clear hx6 hx7; clear h2 hk))
    | (go_at_call 39; (with_reducible refine (num_any p b 9 2 2 rfl v y2 HD.out.rd HY.out (by decide) (by decide)).mono ?_); go_must (rintro e y3 ⟨rfl, h2, hk⟩; replace HD := Aside0.mk (HD.out.num h2 hk); clear c0 c1 c2 c3 c4 c5 c6 c7 c8 c9 c10 q0 q1 q2 q3 z3 z4 z5; have hx6 := HD.out.cell; obtain ⟨c0, c1, c2, c3, c4, c5, c6, c7, c8, c9⟩ := cel_at (x := ⟨gv b 0 1, gv b 1 2, gv b 3 4, 0, 0, 0, 0, 0, 0, 0, []⟩) (A := none) (c := 0) hx6; have c10 : y3.cell? ⟨g6, 10, none⟩ = some (.slice none 0 0) := blk_cell hx6 10; (try simp only at c0 c1 c2 c3 c4 c5 c6 c7 c8 c9); have z3 := blk_frozen hx6 3; have z4 := blk_frozen hx6 4; have z5 := blk_frozen hx6 5; have hx7 := HD.out.pts; have q0 : y3.cell? ⟨g7, 0, none⟩ = some (.bool true) := blk_cell hx7 0; have q1 : y3.cell? ⟨g7, 1, none⟩ = some (.bool true) := blk_cell hx7 1; have q2 : y3.cell? ⟨g7, 2, none⟩ = some (.bool false) := blk_cell hx7 2; have q3 : y3.cell? ⟨g7, 3, none⟩ = some (.bool false) := blk_cell hx7 3; clear hx6 hx7; clear h2 hk)))
  obtain ⟨V10, hV10⟩ : ∃ W, W = (((y3.setCell ⟨g6, 3, none⟩ (.int .i64 (gv b 7 1))).setCell ⟨g6, 4, none⟩ (.int .i64 (gv b 8 1))).setCell ⟨g6, 5, none⟩ (.int .i64 (gv b 9 2))) := ⟨_, rfl⟩
  rw [← hV10]
  replace HD := Aside0.mk (show DS v w V10 p g6 g7 b (11) ⟨gv b 0 1, gv b 1 2, gv b 3 4, gv b 7 1, gv b 8 1, gv b 9 2, 0, 0, 0, 0, []⟩ none 0 #[.bool true, .bool true, .bool false, .bool false] by rw [hV10]; exact (((HD.out.set_ 3 (.int .i64 (gv b 7 1)) (x' := ⟨gv b 0 1, gv b 1 2, gv b 3 4, gv b 7 1, 0, 0, 0, 0, 0, 0, []⟩) rfl rfl).set_ 4 (.int .i64 (gv b 8 1)) (x' := ⟨gv b 0 1, gv b 1 2, gv b 3 4, gv b 7 1, gv b 8 1, 0, 0, 0, 0, 0, []⟩) rfl rfl).set_ 5 (.int .i64 (gv b 9 2)) (x' := ⟨gv b 0 1, gv b 1 2, gv b 3 4, gv b 7 1, gv b 8 1, gv b 9 2, 0, 0, 0, 0, []⟩) rfl rfl))
  clear hV10; clear c0 c1 c2 c3 c4 c5 c6 c7 c8 c9 c10 q0 q1 q2 q3 z3 z4 z5
  have hx6 := HD.out.cell
  obtain ⟨c0, c1, c2, c3, c4, c5, c6, c7, c8, c9⟩ := cel_at (x := ⟨gv b 0 1, gv b 1 2, gv b 3 4, gv b 7 1, gv b 8 1, gv b 9 2, 0, 0, 0, 0, []⟩) (A := none) (c := 0) hx6
  have c10 : V10.cell? ⟨g6, 10, none⟩ = some (.slice none 0 0) := blk_cell hx6 10
  (try simp only at c0 c1 c2 c3 c4 c5 c6 c7 c8 c9)
  have z6 := blk_frozen hx6 6
  have hx7 := HD.out.pts
  have q0 : V10.cell? ⟨g7, 0, none⟩ = some (.bool true) := blk_cell hx7 0
  have q1 : V10.cell? ⟨g7, 1, none⟩ = some (.bool true) := blk_cell hx7 1
  have q2 : V10.cell? ⟨g7, 2, none⟩ = some (.bool false) := blk_cell hx7 2
  have q3 : V10.cell? ⟨g7, 3, none⟩ = some (.bool false) := blk_cell hx7 3
  clear hx6 hx7
  go_upto_region 17 with (first
    | (go_at_call 39; (with_reducible refine (num_any p b 11 2 2 rfl v V10 HD.out.rd HY.out (by decide) (by decide)).mono ?_); go_must (rintro e y1 ⟨rfl, h2, hk⟩; replace HD := Aside0.mk (HD.out.num h2 hk); clear c0 c1 c2 c3 c4 c5 c6 c7 c8 c9 c10 q0 q1 q2 q3 z6; have hx6 := HD.out.cell; obtain ⟨c0, c1, c2, c3, c4, c5, c6, c7, c8, c9⟩ := cel_at (x := ⟨gv b 0 1, gv b 1 2, gv b 3 4, gv b 7 1, gv b 8 1, gv b 9 2, 0, 0, 0, 0, []⟩) (A := none) (c := 0) hx6; have c10 : y1.cell? ⟨g6, 10, none⟩ = some (.slice none 0 0) := blk_cell hx6 10; (try simp only at c0 c1 c2 c3 c4 c5 c6 c7 c8 c9); have z6 := blk_frozen hx6 6; have hx7 := HD.out.pts; have q0 : y1.cell? ⟨g7, 0, none⟩ = some (.bool true) := blk_cell hx7 0; have q1 : y1.cell? ⟨g7, 1, none⟩ = some (.bool true) := blk_cell hx7 1; have q2 : y1.cell? ⟨g7, 2, none⟩ = some (.bool false) := blk_cell hx7 2; have q3 : y1.cell? ⟨g7, 3, none⟩ = some (.bool false) := blk_cell hx7 3; clear hx6 hx7; clear h2 hk)))
  obtain ⟨V12, hV12⟩ : ∃ W, W = (y1.setCell ⟨g6, 6, none⟩ (.int .u64 (gv b 11 2))) := ⟨_, rfl⟩
  rw [← hV12]
  replace HD := Aside0.mk (show DS v w V12 p g6 g7 b (13) ⟨gv b 0 1, gv b 1 2, gv b 3 4, gv b 7 1, gv b 8 1, gv b 9 2, gv b 11 2, 0, 0, 0, []⟩ none 0 #[.bool true, .bool true, .bool false, .bool false] by rw [hV12]; exact (HD.out.set_ 6 (.int .u64 (gv b 11 2)) (x' := ⟨gv b 0 1, gv b 1 2, gv b 3 4, gv b 7 1, gv b 8 1, gv b 9 2, gv b 11 2, 0, 0, 0, []⟩) rfl rfl))
  clear hV12; clear c0 c1 c2 c3 c4 c5 c6 c7 c8 c9 c10 q0 q1 q2 q3 z6
  replace HD := Aside0.mk (show DS v w V12 p g6 g7 b (13) x9 none 0 #[.bool true, .bool true, .bool false, .bool false] by rw [hx9.out]; exact HD.out)
  obtain ⟨hrd1, hrd2, A0, k0, hk0, hr0, hp0⟩ := HD.out.rd
  have r0 : V12.cell? ⟨p, 0, none⟩ = some (.slice A0 (b.length - (13)) k0) := blk_cell hp0 0
  have r1 : V12.cell? ⟨p, 1, none⟩ = some (.bool (decide (b.length < 13))) := blk_cell hp0 1
  have HR0 := Aside0.mk (And.intro hk0 hr0)
  clear hrd1 hrd2 hk0 hr0 hp0
  obtain ⟨lr, hlr⟩ : ∃ lr, lr = b.length - (13) := ⟨_, rfl⟩
  rw [← hlr] at r0
  have HLR := Aside0.mk hlr
  clear hlr
  have hx6 := HD.out.cell
  obtain ⟨c0, c1, c2, c3, c4, c5, c6, c7, c8, c9⟩ := cel_at (x := x9) (A := none) (c := 0) hx6
  have c10 : V12.cell? ⟨g6, 10, none⟩ = some (.slice none x9.body.length 0) := blk_cell hx6 10
  (try simp only at c0 c1 c2 c3 c4 c5 c6 c7 c8 c9)
  have hx7 := HD.out.pts
  have q0 : V12.cell? ⟨g7, 0, none⟩ = some (.bool true) := blk_cell hx7 0
  have q1 : V12.cell? ⟨g7, 1, none⟩ = some (.bool true) := blk_cell hx7 1
  have q2 : V12.cell? ⟨g7, 2, none⟩ = some (.bool false) := blk_cell hx7 2
  have q3 : V12.cell? ⟨g7, 3, none⟩ = some (.bool false) := blk_cell hx7 3
  clear hx6 hx7
  have hxr := HD.out.res
  have t0 : V12.cell? ⟨w.heap.size, 0, none⟩ = some (.int .i64 0) := blk_cell hxr 0
  have t1 : V12.cell? ⟨w.heap.size, 1, none⟩ = some (.int .u64 0) := blk_cell hxr 1
  have t2 : V12.cell? ⟨w.heap.size, 2, none⟩ = some (.int .i64 0) := blk_cell hxr 2
  have t3 : V12.cell? ⟨w.heap.size, 3, none⟩ = some (.int .i64 0) := blk_cell hxr 3
  have t4 : V12.cell? ⟨w.heap.size, 4, none⟩ = some (.int .i64 0) := blk_cell hxr 4
  have t5 : V12.cell? ⟨w.heap.size, 5, none⟩ = some (.int .i64 0) := blk_cell hxr 5
  have t6 : V12.cell? ⟨w.heap.size, 6, none⟩ = some (.int .u64 0) := blk_cell hxr 6
  have t7 : V12.cell? ⟨w.heap.size, 7, none⟩ = some (.int .i64 0) := blk_cell hxr 7
  have t8 : V12.cell? ⟨w.heap.size, 8, none⟩ = some (.int .i64 0) := blk_cell hxr 8
  have t9 : V12.cell? ⟨w.heap.size, 9, none⟩ = some (.int .i64 0) := blk_cell hxr 9
  have t10 : V12.cell? ⟨w.heap.size, 10, none⟩ = some (.slice none 0 0) := blk_cell hxr 10
  have zt0 := blk_frozen hxr 0
  have zt1 := blk_frozen hxr 1
  have zt2 := blk_frozen hxr 2
  have zt3 := blk_frozen hxr 3
  have zt4 := blk_frozen hxr 4
  have zt5 := blk_frozen hxr 5
  have zt6 := blk_frozen hxr 6
  have zt7 := blk_frozen hxr 7
  have zt8 := blk_frozen hxr 8
  have zt9 := blk_frozen hxr 9
  have zt10 := blk_frozen hxr 10
  clear hxr
  cases hs : decide (b.length < 13) with
  | true =>
    rw [hs] at r1
    have HE := Aside0.mk (show res = (cel0, [], 14) by rw [hres.out, if_pos (of_decide_eq_true hs)])
    clear hs
    go_wp2
    obtain ⟨W9, hW9⟩ : ∃ W9, W9 = (((((((((((V12.setCell ⟨w.heap.size, 0, none⟩ (.int .i64 0)).setCell ⟨w.heap.size, 1, none⟩ (.int .u64 0)).setCell ⟨w.heap.size, 2, none⟩ (.int .i64 0)).setCell ⟨w.heap.size, 3, none⟩ (.int .i64 0)).setCell ⟨w.heap.size, 4, none⟩ (.int .i64 0)).setCell ⟨w.heap.size, 5, none⟩ (.int .i64 0)).setCell ⟨w.heap.size, 6, none⟩ (.int .u64 0)).setCell ⟨w.heap.size, 7, none⟩ (.int .i64 0)).setCell ⟨w.heap.size, 8, none⟩ (.int .i64 0)).setCell ⟨w.heap.size, 9, none⟩ (.int .i64 0)).setCell ⟨w.heap.size, 10, none⟩ (.slice none 0 0)) := ⟨_, rfl⟩
    rw [← hW9]
    have hr9 : W9.heap[w.heap.size]? = some (.cells (celA cel0 none 0) 30 (0, 0)) := by rw [hW9]; exact putCell_at (x := cel0) (A := none) (c := 0) HD.out.res
    have hb9 : Below w.heap.size w W9 := by rw [hW9]; exact putCell_below (x := cel0) (A := none) (c := 0) HD.out.bel (Nat.le_refl _)
    clear hW9 t0 t1 t2 t3 t4 t5 t6 t7 t8 t9 t10
    have t0 : W9.cell? ⟨w.heap.size, 0, none⟩ = some (.int .i64 0) := blk_cell hr9 0
    have t1 : W9.cell? ⟨w.heap.size, 1, none⟩ = some (.int .u64 0) := blk_cell hr9 1
    have t2 : W9.cell? ⟨w.heap.size, 2, none⟩ = some (.int .i64 0) := blk_cell hr9 2
    have t3 : W9.cell? ⟨w.heap.size, 3, none⟩ = some (.int .i64 0) := blk_cell hr9 3
    have t4 : W9.cell? ⟨w.heap.size, 4, none⟩ = some (.int .i64 0) := blk_cell hr9 4
    have t5 : W9.cell? ⟨w.heap.size, 5, none⟩ = some (.int .i64 0) := blk_cell hr9 5
    have t6 : W9.cell? ⟨w.heap.size, 6, none⟩ = some (.int .u64 0) := blk_cell hr9 6
    have t7 : W9.cell? ⟨w.heap.size, 7, none⟩ = some (.int .i64 0) := blk_cell hr9 7
    have t8 : W9.cell? ⟨w.heap.size, 8, none⟩ = some (.int .i64 0) := blk_cell hr9 8
    have t9 : W9.cell? ⟨w.heap.size, 9, none⟩ = some (.int .i64 0) := blk_cell hr9 9
    have t10 : W9.cell? ⟨w.heap.size, 10, none⟩ = some (.slice none 0 0) := blk_cell hr9 10
    refine bodyPost_ret (v := .tuple #[.agg (celA cel0 none 0), .slice none 0 0, .int .i64 14]) (by simp [results, Try.results27, go_sem, cel0, t0, t1, t2, t3, t4, t5, t6, t7, t8, t9, t10]) rfl ?_
    rw [HE.out]
    exact ⟨⟨none, 0, none, 0, rfl, Kd.R_nil _ _ _ _ _, RdB_nil _, Nat.le_refl _⟩, hb9⟩
  | false =>
    rw [hs] at r1
    have HS := Aside0.mk (of_decide_eq_false hs)
    clear hs
    cases hq : rightB x9 with
    | false =>
      have HE := Aside0.mk (show res = (cel0, [], 3) by rw [hres.out, if_neg HS.out, if_neg (by rw [hq]; simp)])
      go_wp2_with (go_at_call 34; go_must (refine (right_any x9 none 0 _ (Ow_rd HD.out.own).2.2 hwf.out.2.2).mono ?_; rintro e y9 ⟨rfl, hb⟩; rw [hq]; replace HD := Aside0.mk (HD.out.below hb); replace r0 := pw_cell_below hb r0; replace r1 := pw_cell_below hb r1; clear c0 c1 c2 c3 c4 c5 c6 c7 c8 c9 c10 q0 q1 q2 q3 t0 zt0 t1 zt1 t2 zt2 t3 zt3 t4 zt4 t5 zt5 t6 zt6 t7 zt7 t8 zt8 t9 zt9 t10 zt10; have hx6 := HD.out.cell; obtain ⟨c0, c1, c2, c3, c4, c5, c6, c7, c8, c9⟩ := cel_at (x := x9) (A := none) (c := 0) hx6; have c10 : y9.cell? ⟨g6, 10, none⟩ = some (.slice none x9.body.length 0) := blk_cell hx6 10; (try simp only at c0 c1 c2 c3 c4 c5 c6 c7 c8 c9); have hx7 := HD.out.pts; have q0 : y9.cell? ⟨g7, 0, none⟩ = some (.bool true) := blk_cell hx7 0; have q1 : y9.cell? ⟨g7, 1, none⟩ = some (.bool true) := blk_cell hx7 1; have q2 : y9.cell? ⟨g7, 2, none⟩ = some (.bool false) := blk_cell hx7 2; have q3 : y9.cell? ⟨g7, 3, none⟩ = some (.bool false) := blk_cell hx7 3; clear hx6 hx7; have hxr := HD.out.res; have t0 : y9.cell? ⟨w.heap.size, 0, none⟩ = some (.int .i64 0) := blk_cell hxr 0; have t1 : y9.cell? ⟨w.heap.size, 1, none⟩ = some (.int .u64 0) := blk_cell hxr 1; have t2 : y9.cell? ⟨w.heap.size, 2, none⟩ = some (.int .i64 0) := blk_cell hxr 2; have t3 : y9.cell? ⟨w.heap.size, 3, none⟩ = some (.int .i64 0) := blk_cell hxr 3; have t4 : y9.cell? ⟨w.heap.size, 4, none⟩ = some (.int .i64 0) := blk_cell hxr 4; have t5 : y9.cell? ⟨w.heap.size, 5, none⟩ = some (.int .i64 0) := blk_cell hxr 5; have t6 : y9.cell? ⟨w.heap.size, 6, none⟩ = some (.int .u64 0) := blk_cell hxr 6; have t7 : y9.cell? ⟨w.heap.size, 7, none⟩ = some (.int .i64 0) := blk_cell hxr 7; have t8 : y9.cell? ⟨w.heap.size, 8, none⟩ = some (.int .i64 0) := blk_cell hxr 8; have t9 : y9.cell? ⟨w.heap.size, 9, none⟩ = some (.int .i64 0) := blk_cell hxr 9; have t10 : y9.cell? ⟨w.heap.size, 10, none⟩ = some (.slice none 0 0) := blk_cell hxr 10; have zt0 := blk_frozen hxr 0; have zt1 := blk_frozen hxr 1; have zt2 := blk_frozen hxr 2; have zt3 := blk_frozen hxr 3; have zt4 := blk_frozen hxr 4; have zt5 := blk_frozen hxr 5; have zt6 := blk_frozen hxr 6; have zt7 := blk_frozen hxr 7; have zt8 := blk_frozen hxr 8; have zt9 := blk_frozen hxr 9; have zt10 := blk_frozen hxr 10; clear hxr; clear hb))
      obtain ⟨W9, hW9⟩ : ∃ W9, W9 = (((((((((((y9.setCell ⟨w.heap.size, 0, none⟩ (.int .i64 0)).setCell ⟨w.heap.size, 1, none⟩ (.int .u64 0)).setCell ⟨w.heap.size, 2, none⟩ (.int .i64 0)).setCell ⟨w.heap.size, 3, none⟩ (.int .i64 0)).setCell ⟨w.heap.size, 4, none⟩ (.int .i64 0)).setCell ⟨w.heap.size, 5, none⟩ (.int .i64 0)).setCell ⟨w.heap.size, 6, none⟩ (.int .u64 0)).setCell ⟨w.heap.size, 7, none⟩ (.int .i64 0)).setCell ⟨w.heap.size, 8, none⟩ (.int .i64 0)).setCell ⟨w.heap.size, 9, none⟩ (.int .i64 0)).setCell ⟨w.heap.size, 10, none⟩ (.slice none 0 0)) := ⟨_, rfl⟩
      rw [← hW9]
      have hr9 : W9.heap[w.heap.size]? = some (.cells (celA cel0 none 0) 30 (0, 0)) := by rw [hW9]; exact putCell_at (x := cel0) (A := none) (c := 0) HD.out.res
      have hb9 : Below w.heap.size w W9 := by rw [hW9]; exact putCell_below (x := cel0) (A := none) (c := 0) HD.out.bel (Nat.le_refl _)
      clear hW9 t0 t1 t2 t3 t4 t5 t6 t7 t8 t9 t10
      have t0 : W9.cell? ⟨w.heap.size, 0, none⟩ = some (.int .i64 0) := blk_cell hr9 0
      have t1 : W9.cell? ⟨w.heap.size, 1, none⟩ = some (.int .u64 0) := blk_cell hr9 1
      have t2 : W9.cell? ⟨w.heap.size, 2, none⟩ = some (.int .i64 0) := blk_cell hr9 2
      have t3 : W9.cell? ⟨w.heap.size, 3, none⟩ = some (.int .i64 0) := blk_cell hr9 3
      have t4 : W9.cell? ⟨w.heap.size, 4, none⟩ = some (.int .i64 0) := blk_cell hr9 4
      have t5 : W9.cell? ⟨w.heap.size, 5, none⟩ = some (.int .i64 0) := blk_cell hr9 5
      have t6 : W9.cell? ⟨w.heap.size, 6, none⟩ = some (.int .u64 0) := blk_cell hr9 6
      have t7 : W9.cell? ⟨w.heap.size, 7, none⟩ = some (.int .i64 0) := blk_cell hr9 7
      have t8 : W9.cell? ⟨w.heap.size, 8, none⟩ = some (.int .i64 0) := blk_cell hr9 8
      have t9 : W9.cell? ⟨w.heap.size, 9, none⟩ = some (.int .i64 0) := blk_cell hr9 9
      have t10 : W9.cell? ⟨w.heap.size, 10, none⟩ = some (.slice none 0 0) := blk_cell hr9 10
      refine bodyPost_ret (v := .tuple #[.agg (celA cel0 none 0), .slice none 0 0, .int .i64 3]) (by simp [results, Try.results27, go_sem, cel0, t0, t1, t2, t3, t4, t5, t6, t7, t8, t9, t10]) rfl ?_
      rw [HE.out]
      exact ⟨⟨none, 0, none, 0, rfl, Kd.R_nil _ _ _ _ _, RdB_nil _, Nat.le_refl _⟩, hb9⟩
    | true =>
      have HE := Aside0.mk (show res = (x9, b.drop (13), 0) by rw [hres.out, if_neg HS.out, if_pos hq])
      go_wp2_with (go_at_call 34; go_must (refine (right_any x9 none 0 _ (Ow_rd HD.out.own).2.2 hwf.out.2.2).mono ?_; rintro e y9 ⟨rfl, hb⟩; rw [hq]; replace HD := Aside0.mk (HD.out.below hb); replace r0 := pw_cell_below hb r0; replace r1 := pw_cell_below hb r1; clear c0 c1 c2 c3 c4 c5 c6 c7 c8 c9 c10 q0 q1 q2 q3 t0 zt0 t1 zt1 t2 zt2 t3 zt3 t4 zt4 t5 zt5 t6 zt6 t7 zt7 t8 zt8 t9 zt9 t10 zt10; have hx6 := HD.out.cell; obtain ⟨c0, c1, c2, c3, c4, c5, c6, c7, c8, c9⟩ := cel_at (x := x9) (A := none) (c := 0) hx6; have c10 : y9.cell? ⟨g6, 10, none⟩ = some (.slice none x9.body.length 0) := blk_cell hx6 10; (try simp only at c0 c1 c2 c3 c4 c5 c6 c7 c8 c9); have hx7 := HD.out.pts; have q0 : y9.cell? ⟨g7, 0, none⟩ = some (.bool true) := blk_cell hx7 0; have q1 : y9.cell? ⟨g7, 1, none⟩ = some (.bool true) := blk_cell hx7 1; have q2 : y9.cell? ⟨g7, 2, none⟩ = some (.bool false) := blk_cell hx7 2; have q3 : y9.cell? ⟨g7, 3, none⟩ = some (.bool false) := blk_cell hx7 3; clear hx6 hx7; have hxr := HD.out.res; have t0 : y9.cell? ⟨w.heap.size, 0, none⟩ = some (.int .i64 0) := blk_cell hxr 0; have t1 : y9.cell? ⟨w.heap.size, 1, none⟩ = some (.int .u64 0) := blk_cell hxr 1; have t2 : y9.cell? ⟨w.heap.size, 2, none⟩ = some (.int .i64 0) := blk_cell hxr 2; have t3 : y9.cell? ⟨w.heap.size, 3, none⟩ = some (.int .i64 0) := blk_cell hxr 3; have t4 : y9.cell? ⟨w.heap.size, 4, none⟩ = some (.int .i64 0) := blk_cell hxr 4; have t5 : y9.cell? ⟨w.heap.size, 5, none⟩ = some (.int .i64 0) := blk_cell hxr 5; have t6 : y9.cell? ⟨w.heap.size, 6, none⟩ = some (.int .u64 0) := blk_cell hxr 6; have t7 : y9.cell? ⟨w.heap.size, 7, none⟩ = some (.int .i64 0) := blk_cell hxr 7; have t8 : y9.cell? ⟨w.heap.size, 8, none⟩ = some (.int .i64 0) := blk_cell hxr 8; have t9 : y9.cell? ⟨w.heap.size, 9, none⟩ = some (.int .i64 0) := blk_cell hxr 9; have t10 : y9.cell? ⟨w.heap.size, 10, none⟩ = some (.slice none 0 0) := blk_cell hxr 10; have zt0 := blk_frozen hxr 0; have zt1 := blk_frozen hxr 1; have zt2 := blk_frozen hxr 2; have zt3 := blk_frozen hxr 3; have zt4 := blk_frozen hxr 4; have zt5 := blk_frozen hxr 5; have zt6 := blk_frozen hxr 6; have zt7 := blk_frozen hxr 7; have zt8 := blk_frozen hxr 8; have zt9 := blk_frozen hxr 9; have zt10 := blk_frozen hxr 10; clear hxr; clear hb))
      go_wp2_with (fail)
      refine start_ (n := 8) (S := fun w' => w'.heap[g6]? = some (.cells (celA x9 none 0) 30 (0, 0)) ∧ w'.cell? ⟨p, 0, none⟩ = some (.slice A0 lr k0)) (ds := []) #[false, false, false, false, false, false, false, false] (by kernel_rfl) rfl rfl ⟨(HD.out.below (below_drew (Below.refl _ _))).cell, pw_cell_below (below_drew (Below.refl _ _)) r0⟩ (fun hHeld => ?_); refine with_tab tabD21_ok (fun HT_ => ?_)
      have hb : Below y9.heap.size y9 y9.drew := below_drew (Below.refl _ _)
      skip
      clear hb
      refine take_ (i := 0) (N := some 81) (v := ?_) (a' := ?_) #[true, false, false, false, false, false, false, false] rfl rfl (take_of HT_.out (by kernel_rfl)) (fun _ _ _ h => h) (Or.inl ⟨by rfl, ?_⟩) hHeld ?_ ?_
      rotate_left
      · intro w' hw'
        obtain ⟨s0, s1⟩ := hw'; obtain ⟨c0, c1, c2, c3, c4, c5, c6, c7, c8, c9⟩ := cel_at (x := x9) (A := none) (c := 0) s0; have c10 : w'.cell? ⟨g6, 10, none⟩ = some (.slice none x9.body.length 0) := blk_cell s0 10
        go_simp
        with_reducible rfl
      rotate_left
      · simp only [Act.put, List.setIfInBounds_toArray, List.set_cons_zero, List.set_cons_succ]
        rfl
      refine pure_ (i := 1) (N := some 82) (v := ?_) (a' := ?_) #[true, true, false, false, false, false, false, false] rfl rfl (any_of HT_.out (by kernel_rfl)) (fun _ _ _ h => h) (Or.inl ⟨by rfl, ?_⟩) ?_ ?_
      rotate_left
      · intro w'
        go_simp
        with_reducible rfl
      rotate_left
      · simp only [Act.put, List.setIfInBounds_toArray, List.set_cons_zero, List.set_cons_succ]
        rfl
      refine pure_ (i := 2) (N := some 83) (v := ?_) (a' := ?_) #[true, true, true, false, false, false, false, false] rfl rfl (any_of HT_.out (by kernel_rfl)) (fun _ _ _ h => h) (Or.inl ⟨by rfl, ?_⟩) ?_ ?_
      rotate_left
      · intro w'
        go_simp
        with_reducible rfl
      rotate_left
      · simp only [Act.put, List.setIfInBounds_toArray, List.set_cons_zero, List.set_cons_succ]
        rfl
      refine pure_ (i := 3) (N := some 84) (v := ?_) (a' := ?_) #[true, true, true, true, false, false, false, false] rfl rfl (any_of HT_.out (by kernel_rfl)) (fun _ _ _ h => h) (Or.inl ⟨by rfl, ?_⟩) ?_ ?_
      rotate_left
      · intro w'
        go_simp
        with_reducible rfl
      rotate_left
      · simp only [Act.put, List.setIfInBounds_toArray, List.set_cons_zero, List.set_cons_succ]
        rfl
      refine take_ (i := 4) (N := some 85) (v := ?_) (a' := ?_) #[true, true, true, true, true, false, false, false] rfl rfl (take_of HT_.out (by kernel_rfl)) (fun _ _ _ h => h) (Or.inl ⟨by rfl, ?_⟩) hHeld ?_ ?_
      rotate_left
      · intro w' hw'
        obtain ⟨s0, s1⟩ := hw'
        go_simp
        with_reducible rfl
      rotate_left
      · simp only [Act.put, List.setIfInBounds_toArray, List.set_cons_zero, List.set_cons_succ]
        rfl
      refine one_ (i := 5) (N := none) #[true, true, true, true, true, true, false, false] rfl rfl (one_of HT_.out (by kernel_rfl)) (by decide) (fun Kq_ hK_ => ?_)
      refine skip_ (w1 := ?_) (by rfl) rfl ?_ ?_
      rotate_left
      · go_simp
        first | done | rfl
      refine hK_.out _ _ ⟨put_blk (W := y9) (g := w.heap.size) (x := x9) (A := none) (c := 0) (Nat.ne_of_gt (Nat.lt_trans hord.1 hord.2.1)) HD.out.cell, put_keeps (W := y9) (g := w.heap.size) (x := x9) (A := none) (c := 0) (Nat.ne_of_gt hord.1) r0⟩ (fun hHeld => ?_)
      clear hK_ Kq_
      refine pure_ (i := 6) (N := some 3) (v := ?_) (a' := ?_) #[true, true, true, true, true, true, true, false] rfl rfl (any_of HT_.out (by kernel_rfl)) (fun _ _ _ h => h) (Or.inl ⟨by rfl, ?_⟩) ?_ ?_
      rotate_left
      · intro w'
        go_simp
        with_reducible rfl
      rotate_left
      · simp only [Act.put, List.setIfInBounds_toArray, List.set_cons_zero, List.set_cons_succ]
        rfl
      refine pure_ (i := 7) (N := some 4) (v := ?_) (a' := ?_) #[true, true, true, true, true, true, true, true] rfl rfl (any_of HT_.out (by kernel_rfl)) (fun _ _ _ h => h) (Or.inl ⟨by rfl, ?_⟩) ?_ ?_
      rotate_left
      · intro w'
        go_simp
        with_reducible rfl
      rotate_left
      · simp only [Act.put, List.setIfInBounds_toArray, List.set_cons_zero, List.set_cons_succ]
        rfl
      refine done_ (done_of HT_.out (by kernel_rfl)) ?_
      clear HT_ hHeld
      go_wp2
      obtain ⟨W9, hW9⟩ : ∃ W9, W9 = (putCell y9 w.heap.size x9 none 0).drew := ⟨_, rfl⟩
      rw [← hW9]
      have hr9 : W9.heap[w.heap.size]? = some (.cells (celA x9 none 0) 30 (0, 0)) := by rw [hW9]; exact put_at_ HD.out.res
      have hb9 : Below w.heap.size w W9 := by rw [hW9]; exact put_below_ HD.out.bel (Nat.le_refl _)
      have ho9 : OwB W9 w.heap.size (.slice none x9.body.length 0) x9.body := by rw [hW9]; exact own_put HD.out.own HD.out.res (by decide) (fun k hk => put_far_ hk)
      clear hW9 t0 t1 t2 t3 t4 t5 t6 t7 t8 t9 t10
      have t0 : W9.cell? ⟨w.heap.size, 0, none⟩ = some (.int .i64 x9.kind) := blk_cell hr9 0
      have t1 : W9.cell? ⟨w.heap.size, 1, none⟩ = some (.int .u64 x9.num) := blk_cell hr9 1
      have t2 : W9.cell? ⟨w.heap.size, 2, none⟩ = some (.int .i64 x9.min) := blk_cell hr9 2
      have t3 : W9.cell? ⟨w.heap.size, 3, none⟩ = some (.int .i64 x9.br) := blk_cell hr9 3
      have t4 : W9.cell? ⟨w.heap.size, 4, none⟩ = some (.int .i64 x9.vol) := blk_cell hr9 4
      have t5 : W9.cell? ⟨w.heap.size, 5, none⟩ = some (.int .i64 x9.blk) := blk_cell hr9 5
      have t6 : W9.cell? ⟨w.heap.size, 6, none⟩ = some (.int .u64 x9.ref) := blk_cell hr9 6
      have t7 : W9.cell? ⟨w.heap.size, 7, none⟩ = some (.int .i64 x9.fr) := blk_cell hr9 7
      have t8 : W9.cell? ⟨w.heap.size, 8, none⟩ = some (.int .i64 x9.to) := blk_cell hr9 8
      have t9 : W9.cell? ⟨w.heap.size, 9, none⟩ = some (.int .i64 x9.un) := blk_cell hr9 9
      have t10 : W9.cell? ⟨w.heap.size, 10, none⟩ = some (.slice none x9.body.length 0) := blk_cell hr9 10
      refine bodyPost_ret (v := .tuple #[.agg (celA x9 none 0), .slice A0 lr k0, .int .i64 0]) (by simp [results, Try.results27, go_sem, t0, t1, t2, t3, t4, t5, t6, t7, t8, t9, t10]) rfl ?_
      rw [HE.out]
      have hdl : (b.drop (13)).length = lr := by rw [List.length_drop, HLR.out]
      refine ⟨⟨none, 0, A0, k0, by rw [hdl], ho9, ?_, by rw [hdl, HLR.out]; exact HR0.out.1⟩, hb9⟩
      show Kd.C _ _ _ (b.drop (13)).length _
      rw [List.length_drop]
      exact HR0.out.2
set_option maxHeartbeats 6400000 in
set_option maxRecDepth 100000 in
theorem decode_p (A : Option Addr) (c : Nat) (b : List Int) (v w : World) (hv : Below v.heap.size v w) (hr : RdB v A b) (hc : b.length ≤ c) (hy : Byt b) (hl : b.length ≤ 1000) (h0 : b.length ≠ 0) (hV : Aside0 (partsV (gv b 0 1) = .agg #[.bool true, .bool false, .bool false, .bool false])) (hK : Aside0 (hasKind (gv b 0 1) = true)) (nb : Nat) (hnb : Aside0 (nb = 0))
    (x9 : Cel) (hx9 : Aside0 (x9 = ⟨gv b 0 1, gv b 1 2, gv b 3 4, gv b 7 1, gv b 8 1, gv b 9 2, 0, 0, 0, 0, []⟩)) (hwf : Aside0 (CelWf x9)) (res : Cel × List Int × Int)
    (hres : Aside0 (res = if b.length < 11 then (cel0, [], 14) else if rightB x9 then (x9, b.drop (11), 0) else (cel0, [], 3))) :
    Calls Try.prog 27 #[.slice A b.length c] w fun e w' => (∃ A1 c1 A2 c2, e = .returned (.tuple #[.agg (celA res.1 A1 c1), .slice A2 res.2.1.length c2, .int .i64 res.2.2]) ∧ OwB w' w.heap.size (.slice A1 res.1.body.length c1) res.1.body ∧ RdB v A2 res.2.1 ∧ res.2.1.length ≤ c2) ∧ Below w.heap.size w w' := by
  have hmx := C_max hr
  have HR := Aside0.mk hr
  have HVW := Aside0.mk hv
  have HY := Aside0.mk hy
  have HC := Aside0.mk hc
  have e1 : IntKind.u64.wrap (gv b 1 2) = gv b 1 2 := wrap_u64_in _ (gv_range hy 1 2).1 (by have := (gv_range hy 1 2).2; omega)
  clear hr hy hc hv
  go_enter Try.func27, Try.ntmps27
  go_upto_region 8 with (first | (go_at_call 39; go_must (refine (num_any (w.heap.size + 1) b 0 1 1 rfl v _ (dec_start HVW.out HR.out HC.out) HY.out (by decide) (by decide)).mono ?_; rintro e w1 ⟨rfl, h2, hk⟩; have HRD := Aside0.mk h2; have HK1 := Aside0.mk hk; clear h2 hk)) | (go_at_call 36; go_must (refine (has_any (gv b 0 1) _).mono ?_; rintro e w2 ⟨rfl, hb⟩; rw [hV.out, hK.out]; have HB2 := Aside0.mk hb; clear hb)))
  obtain ⟨W3, hW3⟩ : ∃ W3, W3 = w2.alloc (.cells #[.bool true, .bool false, .bool false, .bool false] 84) := ⟨_, rfl⟩
  rw [← hW3]
  have HD := Aside0.mk (show DS v w W3 (w.heap.size + 1) w1.heap.size w2.heap.size b 1 ⟨gv b 0 1, 0, 0, 0, 0, 0, 0, 0, 0, 0, []⟩ none 0 #[.bool true, .bool false, .bool false, .bool false] by rw [hW3]; exact dec_first HVW.out HRD.out HK1.out HB2.out)
  obtain ⟨p, hp⟩ : ∃ p, p = w.heap.size + 1 := ⟨_, rfl⟩
  obtain ⟨g6, hg6⟩ : ∃ g, g = w1.heap.size := ⟨_, rfl⟩
  obtain ⟨g7, hg7⟩ : ∃ g, g = w2.heap.size := ⟨_, rfl⟩
  rw [← hp, ← hg6, ← hg7] at HD ⊢
  have hord := HD.out.ord
  clear hW3 HRD HK1 HB2 hp hg6 hg7
  have hx6 := HD.out.cell
  obtain ⟨c0, c1, c2, c3, c4, c5, c6, c7, c8, c9⟩ := cel_at (x := ⟨gv b 0 1, 0, 0, 0, 0, 0, 0, 0, 0, 0, []⟩) (A := none) (c := 0) hx6
  have c10 : W3.cell? ⟨g6, 10, none⟩ = some (.slice none 0 0) := blk_cell hx6 10
  (try simp only at c0 c1 c2 c3 c4 c5 c6 c7 c8 c9)
  have z1 := blk_frozen hx6 1
  have z2 := blk_frozen hx6 2
  have hx7 := HD.out.pts
  have q0 : W3.cell? ⟨g7, 0, none⟩ = some (.bool true) := blk_cell hx7 0
  have q1 : W3.cell? ⟨g7, 1, none⟩ = some (.bool false) := blk_cell hx7 1
  have q2 : W3.cell? ⟨g7, 2, none⟩ = some (.bool false) := blk_cell hx7 2
  have q3 : W3.cell? ⟨g7, 3, none⟩ = some (.bool false) := blk_cell hx7 3
  clear hx6 hx7
  go_upto_region 10 with (first
    | (go_at_call 39; (with_reducible refine (num_any p b 1 2 2 rfl v W3 HD.out.rd HY.out (by decide) (by decide)).mono ?_); go_must (rintro e y1 ⟨rfl, h2, hk⟩; replace HD := Aside0.mk (HD.out.num h2 hk); clear c0 c1 c2 c3 c4 c5 c6 c7 c8 c9 c10 q0 q1 q2 q3 z1 z2; have hx6 := HD.out.cell; obtain ⟨c0, c1, c2, c3, c4, c5, c6, c7, c8, c9⟩ := cel_at (x := ⟨gv b 0 1, 0, 0, 0, 0, 0, 0, 0, 0, 0, []⟩) (A := none) (c := 0) hx6; have c10 : y1.cell? ⟨g6, 10, none⟩ = some (.slice none 0 0) := blk_cell hx6 10; (try simp only at c0 c1 c2 c3 c4 c5 c6 c7 c8 c9); have z1 := blk_frozen hx6 1; have z2 := blk_frozen hx6 2; have hx7 := HD.out.pts; have q0 : y1.cell? ⟨g7, 0, none⟩ = some (.bool true) := blk_cell hx7 0; have q1 : y1.cell? ⟨g7, 1, none⟩ = some (.bool false) := blk_cell hx7 1; have q2 : y1.cell? ⟨g7, 2, none⟩ = some (.bool false) := blk_cell hx7 2; have q3 : y1.cell? ⟨g7, 3, none⟩ = some (.bool false) := blk_cell hx7 3; clear hx6 hx7; clear h2 hk))
    | (go_at_call 39; (with_reducible refine (num_any p b 3 4 4 rfl v y1 HD.out.rd HY.out (by decide) (by decide)).mono ?_); go_must (rintro e y2 ⟨rfl, h2, hk⟩; replace HD := Aside0.mk (HD.out.num h2 hk); clear c0 c1 c2 c3 c4 c5 c6 c7 c8 c9 c10 q0 q1 q2 q3 z1 z2; have hx6 := HD.out.cell; obtain ⟨c0, c1, c2, c3, c4, c5, c6, c7, c8, c9⟩ := cel_at (x := ⟨gv b 0 1, 0, 0, 0, 0, 0, 0, 0, 0, 0, []⟩) (A := none) (c := 0) hx6; have c10 : y2.cell? ⟨g6, 10, none⟩ = some (.slice none 0 0) := blk_cell hx6 10; (try simp only at c0 c1 c2 c3 c4 c5 c6 c7 c8 c9); have z1 := blk_frozen hx6 1; have z2 := blk_frozen hx6 2; have hx7 := HD.out.pts; have q0 : y2.cell? ⟨g7, 0, none⟩ = some (.bool true) := blk_cell hx7 0; have q1 : y2.cell? ⟨g7, 1, none⟩ = some (.bool false) := blk_cell hx7 1; have q2 : y2.cell? ⟨g7, 2, none⟩ = some (.bool false) := blk_cell hx7 2; have q3 : y2.cell? ⟨g7, 3, none⟩ = some (.bool false) := blk_cell hx7 3; clear hx6 hx7; clear h2 hk)))
  obtain ⟨V8, hV8⟩ : ∃ W, W = ((y2.setCell ⟨g6, 1, none⟩ (.int .u64 (gv b 1 2))).setCell ⟨g6, 2, none⟩ (.int .i64 (gv b 3 4))) := ⟨_, rfl⟩
  rw [← hV8]
  replace HD := Aside0.mk (show DS v w V8 p g6 g7 b (7) ⟨gv b 0 1, gv b 1 2, gv b 3 4, 0, 0, 0, 0, 0, 0, 0, []⟩ none 0 #[.bool true, .bool false, .bool false, .bool false] by rw [hV8]; exact ((HD.out.set_ 1 (.int .u64 (gv b 1 2)) (x' := ⟨gv b 0 1, gv b 1 2, 0, 0, 0, 0, 0, 0, 0, 0, []⟩) rfl rfl).set_ 2 (.int .i64 (gv b 3 4)) (x' := ⟨gv b 0 1, gv b 1 2, gv b 3 4, 0, 0, 0, 0, 0, 0, 0, []⟩) rfl rfl))
  clear hV8; clear c0 c1 c2 c3 c4 c5 c6 c7 c8 c9 c10 q0 q1 q2 q3 z1 z2
  have hx6 := HD.out.cell
  obtain ⟨c0, c1, c2, c3, c4, c5, c6, c7, c8, c9⟩ := cel_at (x := ⟨gv b 0 1, gv b 1 2, gv b 3 4, 0, 0, 0, 0, 0, 0, 0, []⟩) (A := none) (c := 0) hx6
  have c10 : V8.cell? ⟨g6, 10, none⟩ = some (.slice none 0 0) := blk_cell hx6 10
  (try simp only at c0 c1 c2 c3 c4 c5 c6 c7 c8 c9)
  have z3 := blk_frozen hx6 3
  have z4 := blk_frozen hx6 4
  have z5 := blk_frozen hx6 5
  have hx7 := HD.out.pts
  have q0 : V8.cell? ⟨g7, 0, none⟩ = some (.bool true) := blk_cell hx7 0
  have q1 : V8.cell? ⟨g7, 1, none⟩ = some (.bool false) := blk_cell hx7 1
  have q2 : V8.cell? ⟨g7, 2, none⟩ = some (.bool false) := blk_cell hx7 2
  have q3 : V8.cell? ⟨g7, 3, none⟩ = some (.bool false) := blk_cell hx7 3
  clear hx6 hx7
  go_upto_region 17 with (first
    | (go_at_call 39; (with_reducible refine (num_any p b 7 1 1 rfl v V8 HD.out.rd HY.out (by decide) (by decide)).mono ?_); go_must (rintro e y1 ⟨rfl, h2, hk⟩; replace HD := Aside0.mk (HD.out.num h2 hk); clear c0 c1 c2 c3 c4 c5 c6 c7 c8 c9 c10 q0 q1 q2 q3 z3 z4 z5; have hx6 := HD.out.cell; obtain ⟨c0, c1, c2, c3, c4, c5, c6, c7, c8, c9⟩ := cel_at (x := ⟨gv b 0 1, gv b 1 2, gv b 3 4, 0, 0, 0, 0, 0, 0, 0, []⟩) (A := none) (c := 0) hx6; have c10 : y1.cell? ⟨g6, 10, none⟩ = some (.slice none 0 0) := blk_cell hx6 10; (try simp only at c0 c1 c2 c3 c4 c5 c6 c7 c8 c9); have z3 := blk_frozen hx6 3; have z4 := blk_frozen hx6 4; have z5 := blk_frozen hx6 5; have hx7 := HD.out.pts; have q0 : y1.cell? ⟨g7, 0, none⟩ = some (.bool true) := blk_cell hx7 0; have q1 : y1.cell? ⟨g7, 1, none⟩ = some (.bool false) := blk_cell hx7 1; have q2 : y1.cell? ⟨g7, 2, none⟩ = some (.bool false) := blk_cell hx7 2; have q3 : y1.cell? ⟨g7, 3, none⟩ = some (.bool false) := blk_cell hx7 3; clear hx6 hx7; clear h2 hk))
    | (go_at_call 39; (with_reducible refine (num_any p b 8 1 1 rfl v y1 HD.out.rd HY.out (by decide) (by decide)).mono ?_); go_must (rintro e y2 ⟨rfl, h2, hk⟩; replace HD := Aside0.mk (HD.out.num h2 hk); clear c0 c1 c2 c3 c4 c5 c6 c7 c8 c9 c10 q0 q1 q2 q3 z3 z4 z5; have hx6 := HD.out.cell; obtain ⟨c0, c1, c2, c3, c4, c5, c6, c7, c8, c9⟩ := cel_at (x := ⟨gv b 0 1, gv b 1 2, gv b 3 4, 0, 0, 0, 0, 0, 0, 0, []⟩) (A := none) (c := 0) hx6; have c10 : y2.cell? ⟨g6, 10, none⟩ = some (.slice none 0 0) := blk_cell hx6 10; (try simp only at c0 c1 c2 c3 c4 c5 c6 c7 c8 c9); have z3 := blk_frozen hx6 3; have z4 := blk_frozen hx6 4; have z5 := blk_frozen hx6 5; have hx7 := HD.out.pts; have q0 : y2.cell? ⟨g7, 0, none⟩ = some (.bool true) := blk_cell hx7 0; have q1 : y2.cell? ⟨g7, 1, none⟩ = some (.bool false) := blk_cell hx7 1; have q2 : y2.cell? ⟨g7, 2, none⟩ = some (.bool false) := blk_cell hx7 2; have q3 : y2.cell? ⟨g7, 3, none⟩ = some (.bool false) := blk_cell hx7 3; clear hx6 hx7; clear h2 hk))
    | (go_at_call 39; (with_reducible refine (num_any p b 9 2 2 rfl v y2 HD.out.rd HY.out (by decide) (by decide)).mono ?_); go_must (rintro e y3 ⟨rfl, h2, hk⟩; replace HD := Aside0.mk (HD.out.num h2 hk); clear c0 c1 c2 c3 c4 c5 c6 c7 c8 c9 c10 q0 q1 q2 q3 z3 z4 z5; have hx6 := HD.out.cell; obtain ⟨c0, c1, c2, c3, c4, c5, c6, c7, c8, c9⟩ := cel_at (x := ⟨gv b 0 1, gv b 1 2, gv b 3 4, 0, 0, 0, 0, 0, 0, 0, []⟩) (A := none) (c := 0) hx6; have c10 : y3.cell? ⟨g6, 10, none⟩ = some (.slice none 0 0) := blk_cell hx6 10; (try simp only at c0 c1 c2 c3 c4 c5 c6 c7 c8 c9); have z3 := blk_frozen hx6 3; have z4 := blk_frozen hx6 4; have z5 := blk_frozen hx6 5; have hx7 := HD.out.pts; have q0 : y3.cell? ⟨g7, 0, none⟩ = some (.bool true) := blk_cell hx7 0; have q1 : y3.cell? ⟨g7, 1, none⟩ = some (.bool false) := blk_cell hx7 1; have q2 : y3.cell? ⟨g7, 2, none⟩ = some (.bool false) := blk_cell hx7 2; have q3 : y3.cell? ⟨g7, 3, none⟩ = some (.bool false) := blk_cell hx7 3; clear hx6 hx7; clear h2 hk)))
  obtain ⟨V10, hV10⟩ : ∃ W, W = (((y3.setCell ⟨g6, 3, none⟩ (.int .i64 (gv b 7 1))).setCell ⟨g6, 4, none⟩ (.int .i64 (gv b 8 1))).setCell ⟨g6, 5, none⟩ (.int .i64 (gv b 9 2))) := ⟨_, rfl⟩
  rw [← hV10]
  replace HD := Aside0.mk (show DS v w V10 p g6 g7 b (11) ⟨gv b 0 1, gv b 1 2, gv b 3 4, gv b 7 1, gv b 8 1, gv b 9 2, 0, 0, 0, 0, []⟩ none 0 #[.bool true, .bool false, .bool false, .bool false] by rw [hV10]; exact (((HD.out.set_ 3 (.int .i64 (gv b 7 1)) (x' := ⟨gv b 0 1, gv b 1 2, gv b 3 4, gv b 7 1, 0, 0, 0, 0, 0, 0, []⟩) rfl rfl).set_ 4 (.int .i64 (gv b 8 1)) (x' := ⟨gv b 0 1, gv b 1 2, gv b 3 4, gv b 7 1, gv b 8 1, 0, 0, 0, 0, 0, []⟩) rfl rfl).set_ 5 (.int .i64 (gv b 9 2)) (x' := ⟨gv b 0 1, gv b 1 2, gv b 3 4, gv b 7 1, gv b 8 1, gv b 9 2, 0, 0, 0, 0, []⟩) rfl rfl))
  clear hV10; clear c0 c1 c2 c3 c4 c5 c6 c7 c8 c9 c10 q0 q1 q2 q3 z3 z4 z5
  replace HD := Aside0.mk (show DS v w V10 p g6 g7 b (11) x9 none 0 #[.bool true, .bool false, .bool false, .bool false] by rw [hx9.out]; exact HD.out)
  obtain ⟨hrd1, hrd2, A0, k0, hk0, hr0, hp0⟩ := HD.out.rd
  have r0 : V10.cell? ⟨p, 0, none⟩ = some (.slice A0 (b.length - (11)) k0) := blk_cell hp0 0
  have r1 : V10.cell? ⟨p, 1, none⟩ = some (.bool (decide (b.length < 11))) := blk_cell hp0 1
  have HR0 := Aside0.mk (And.intro hk0 hr0)
  clear hrd1 hrd2 hk0 hr0 hp0
  obtain ⟨lr, hlr⟩ : ∃ lr, lr = b.length - (11) := ⟨_, rfl⟩
  rw [← hlr] at r0
  have HLR := Aside0.mk hlr
  clear hlr
  have hx6 := HD.out.cell
  obtain ⟨c0, c1, c2, c3, c4, c5, c6, c7, c8, c9⟩ := cel_at (x := x9) (A := none) (c := 0) hx6
  have c10 : V10.cell? ⟨g6, 10, none⟩ = some (.slice none x9.body.length 0) := blk_cell hx6 10
  (try simp only at c0 c1 c2 c3 c4 c5 c6 c7 c8 c9)
  have hx7 := HD.out.pts
  have q0 : V10.cell? ⟨g7, 0, none⟩ = some (.bool true) := blk_cell hx7 0
  have q1 : V10.cell? ⟨g7, 1, none⟩ = some (.bool false) := blk_cell hx7 1
  have q2 : V10.cell? ⟨g7, 2, none⟩ = some (.bool false) := blk_cell hx7 2
  have q3 : V10.cell? ⟨g7, 3, none⟩ = some (.bool false) := blk_cell hx7 3
  clear hx6 hx7
  have hxr := HD.out.res
  have t0 : V10.cell? ⟨w.heap.size, 0, none⟩ = some (.int .i64 0) := blk_cell hxr 0
  have t1 : V10.cell? ⟨w.heap.size, 1, none⟩ = some (.int .u64 0) := blk_cell hxr 1
  have t2 : V10.cell? ⟨w.heap.size, 2, none⟩ = some (.int .i64 0) := blk_cell hxr 2
  have t3 : V10.cell? ⟨w.heap.size, 3, none⟩ = some (.int .i64 0) := blk_cell hxr 3
  have t4 : V10.cell? ⟨w.heap.size, 4, none⟩ = some (.int .i64 0) := blk_cell hxr 4
  have t5 : V10.cell? ⟨w.heap.size, 5, none⟩ = some (.int .i64 0) := blk_cell hxr 5
  have t6 : V10.cell? ⟨w.heap.size, 6, none⟩ = some (.int .u64 0) := blk_cell hxr 6
  have t7 : V10.cell? ⟨w.heap.size, 7, none⟩ = some (.int .i64 0) := blk_cell hxr 7
  have t8 : V10.cell? ⟨w.heap.size, 8, none⟩ = some (.int .i64 0) := blk_cell hxr 8
  have t9 : V10.cell? ⟨w.heap.size, 9, none⟩ = some (.int .i64 0) := blk_cell hxr 9
  have t10 : V10.cell? ⟨w.heap.size, 10, none⟩ = some (.slice none 0 0) := blk_cell hxr 10
  have zt0 := blk_frozen hxr 0
  have zt1 := blk_frozen hxr 1
  have zt2 := blk_frozen hxr 2
  have zt3 := blk_frozen hxr 3
  have zt4 := blk_frozen hxr 4
  have zt5 := blk_frozen hxr 5
  have zt6 := blk_frozen hxr 6
  have zt7 := blk_frozen hxr 7
  have zt8 := blk_frozen hxr 8
  have zt9 := blk_frozen hxr 9
  have zt10 := blk_frozen hxr 10
  clear hxr
  cases hs : decide (b.length < 11) with
  | true =>
    rw [hs] at r1
    have HE := Aside0.mk (show res = (cel0, [], 14) by rw [hres.out, if_pos (of_decide_eq_true hs)])
    clear hs
    go_wp2
    obtain ⟨W9, hW9⟩ : ∃ W9, W9 = (((((((((((V10.setCell ⟨w.heap.size, 0, none⟩ (.int .i64 0)).setCell ⟨w.heap.size, 1, none⟩ (.int .u64 0)).setCell ⟨w.heap.size, 2, none⟩ (.int .i64 0)).setCell ⟨w.heap.size, 3, none⟩ (.int .i64 0)).setCell ⟨w.heap.size, 4, none⟩ (.int .i64 0)).setCell ⟨w.heap.size, 5, none⟩ (.int .i64 0)).setCell ⟨w.heap.size, 6, none⟩ (.int .u64 0)).setCell ⟨w.heap.size, 7, none⟩ (.int .i64 0)).setCell ⟨w.heap.size, 8, none⟩ (.int .i64 0)).setCell ⟨w.heap.size, 9, none⟩ (.int .i64 0)).setCell ⟨w.heap.size, 10, none⟩ (.slice none 0 0)) := ⟨_, rfl⟩
    rw [← hW9]
    have hr9 : W9.heap[w.heap.size]? = some (.cells (celA cel0 none 0) 30 (0, 0)) := by rw [hW9]; exact putCell_at (x := cel0) (A := none) (c := 0) HD.out.res
    have hb9 : Below w.heap.size w W9 := by rw [hW9]; exact putCell_below (x := cel0) (A := none) (c := 0) HD.out.bel (Nat.le_refl _)
    clear hW9 t0 t1 t2 t3 t4 t5 t6 t7 t8 t9 t10
    have t0 : W9.cell? ⟨w.heap.size, 0, none⟩ = some (.int .i64 0) := blk_cell hr9 0
    have t1 : W9.cell? ⟨w.heap.size, 1, none⟩ = some (.int .u64 0) := blk_cell hr9 1
    have t2 : W9.cell? ⟨w.heap.size, 2, none⟩ = some (.int .i64 0) := blk_cell hr9 2
    have t3 : W9.cell? ⟨w.heap.size, 3, none⟩ = some (.int .i64 0) := blk_cell hr9 3
    have t4 : W9.cell? ⟨w.heap.size, 4, none⟩ = some (.int .i64 0) := blk_cell hr9 4
    have t5 : W9.cell? ⟨w.heap.size, 5, none⟩ = some (.int .i64 0) := blk_cell hr9 5
    have t6 : W9.cell? ⟨w.heap.size, 6, none⟩ = some (.int .u64 0) := blk_cell hr9 6
    have t7 : W9.cell? ⟨w.heap.size, 7, none⟩ = some (.int .i64 0) := blk_cell hr9 7
    have t8 : W9.cell? ⟨w.heap.size, 8, none⟩ = some (.int .i64 0) := blk_cell hr9 8
    have t9 : W9.cell? ⟨w.heap.size, 9, none⟩ = some (.int .i64 0) := blk_cell hr9 9
    have t10 : W9.cell? ⟨w.heap.size, 10, none⟩ = some (.slice none 0 0) := blk_cell hr9 10
    refine bodyPost_ret (v := .tuple #[.agg (celA cel0 none 0), .slice none 0 0, .int .i64 14]) (by simp [results, Try.results27, go_sem, cel0, t0, t1, t2, t3, t4, t5, t6, t7, t8, t9, t10]) rfl ?_
    rw [HE.out]
    exact ⟨⟨none, 0, none, 0, rfl, Kd.R_nil _ _ _ _ _, RdB_nil _, Nat.le_refl _⟩, hb9⟩
  | false =>
    rw [hs] at r1
    have HS := Aside0.mk (of_decide_eq_false hs)
    clear hs
    cases hq : rightB x9 with
    | false =>
      have HE := Aside0.mk (show res = (cel0, [], 3) by rw [hres.out, if_neg HS.out, if_neg (by rw [hq]; simp)])
      go_wp2_with (go_at_call 34; go_must (refine (right_any x9 none 0 _ (Ow_rd HD.out.own).2.2 hwf.out.2.2).mono ?_; rintro e y9 ⟨rfl, hb⟩; rw [hq]; replace HD := Aside0.mk (HD.out.below hb); replace r0 := pw_cell_below hb r0; replace r1 := pw_cell_below hb r1; clear c0 c1 c2 c3 c4 c5 c6 c7 c8 c9 c10 q0 q1 q2 q3 t0 zt0 t1 zt1 t2 zt2 t3 zt3 t4 zt4 t5 zt5 t6 zt6 t7 zt7 t8 zt8 t9 zt9 t10 zt10; have hx6 := HD.out.cell; obtain ⟨c0, c1, c2, c3, c4, c5, c6, c7, c8, c9⟩ := cel_at (x := x9) (A := none) (c := 0) hx6; have c10 : y9.cell? ⟨g6, 10, none⟩ = some (.slice none x9.body.length 0) := blk_cell hx6 10; (try simp only at c0 c1 c2 c3 c4 c5 c6 c7 c8 c9); have hx7 := HD.out.pts; have q0 : y9.cell? ⟨g7, 0, none⟩ = some (.bool true) := blk_cell hx7 0; have q1 : y9.cell? ⟨g7, 1, none⟩ = some (.bool false) := blk_cell hx7 1; have q2 : y9.cell? ⟨g7, 2, none⟩ = some (.bool false) := blk_cell hx7 2; have q3 : y9.cell? ⟨g7, 3, none⟩ = some (.bool false) := blk_cell hx7 3; clear hx6 hx7; have hxr := HD.out.res; have t0 : y9.cell? ⟨w.heap.size, 0, none⟩ = some (.int .i64 0) := blk_cell hxr 0; have t1 : y9.cell? ⟨w.heap.size, 1, none⟩ = some (.int .u64 0) := blk_cell hxr 1; have t2 : y9.cell? ⟨w.heap.size, 2, none⟩ = some (.int .i64 0) := blk_cell hxr 2; have t3 : y9.cell? ⟨w.heap.size, 3, none⟩ = some (.int .i64 0) := blk_cell hxr 3; have t4 : y9.cell? ⟨w.heap.size, 4, none⟩ = some (.int .i64 0) := blk_cell hxr 4; have t5 : y9.cell? ⟨w.heap.size, 5, none⟩ = some (.int .i64 0) := blk_cell hxr 5; have t6 : y9.cell? ⟨w.heap.size, 6, none⟩ = some (.int .u64 0) := blk_cell hxr 6; have t7 : y9.cell? ⟨w.heap.size, 7, none⟩ = some (.int .i64 0) := blk_cell hxr 7; have t8 : y9.cell? ⟨w.heap.size, 8, none⟩ = some (.int .i64 0) := blk_cell hxr 8; have t9 : y9.cell? ⟨w.heap.size, 9, none⟩ = some (.int .i64 0) := blk_cell hxr 9; have t10 : y9.cell? ⟨w.heap.size, 10, none⟩ = some (.slice none 0 0) := blk_cell hxr 10; have zt0 := blk_frozen hxr 0; have zt1 := blk_frozen hxr 1; have zt2 := blk_frozen hxr 2; have zt3 := blk_frozen hxr 3; have zt4 := blk_frozen hxr 4; have zt5 := blk_frozen hxr 5; have zt6 := blk_frozen hxr 6; have zt7 := blk_frozen hxr 7; have zt8 := blk_frozen hxr 8; have zt9 := blk_frozen hxr 9; have zt10 := blk_frozen hxr 10; clear hxr; clear hb))
      obtain ⟨W9, hW9⟩ : ∃ W9, W9 = (((((((((((y9.setCell ⟨w.heap.size, 0, none⟩ (.int .i64 0)).setCell ⟨w.heap.size, 1, none⟩ (.int .u64 0)).setCell ⟨w.heap.size, 2, none⟩ (.int .i64 0)).setCell ⟨w.heap.size, 3, none⟩ (.int .i64 0)).setCell ⟨w.heap.size, 4, none⟩ (.int .i64 0)).setCell ⟨w.heap.size, 5, none⟩ (.int .i64 0)).setCell ⟨w.heap.size, 6, none⟩ (.int .u64 0)).setCell ⟨w.heap.size, 7, none⟩ (.int .i64 0)).setCell ⟨w.heap.size, 8, none⟩ (.int .i64 0)).setCell ⟨w.heap.size, 9, none⟩ (.int .i64 0)).setCell ⟨w.heap.size, 10, none⟩ (.slice none 0 0)) := ⟨_, rfl⟩
      rw [← hW9]
      have hr9 : W9.heap[w.heap.size]? = some (.cells (celA cel0 none 0) 30 (0, 0)) := by rw [hW9]; exact putCell_at (x := cel0) (A := none) (c := 0) HD.out.res
      have hb9 : Below w.heap.size w W9 := by rw [hW9]; exact putCell_below (x := cel0) (A := none) (c := 0) HD.out.bel (Nat.le_refl _)
      clear hW9 t0 t1 t2 t3 t4 t5 t6 t7 t8 t9 t10
      have t0 : W9.cell? ⟨w.heap.size, 0, none⟩ = some (.int .i64 0) := blk_cell hr9 0
      have t1 : W9.cell? ⟨w.heap.size, 1, none⟩ = some (.int .u64 0) := blk_cell hr9 1
      have t2 : W9.cell? ⟨w.heap.size, 2, none⟩ = some (.int .i64 0) := blk_cell hr9 2
      have t3 : W9.cell? ⟨w.heap.size, 3, none⟩ = some (.int .i64 0) := blk_cell hr9 3
      have t4 : W9.cell? ⟨w.heap.size, 4, none⟩ = some (.int .i64 0) := blk_cell hr9 4
      have t5 : W9.cell? ⟨w.heap.size, 5, none⟩ = some (.int .i64 0) := blk_cell hr9 5
      have t6 : W9.cell? ⟨w.heap.size, 6, none⟩ = some (.int .u64 0) := blk_cell hr9 6
      have t7 : W9.cell? ⟨w.heap.size, 7, none⟩ = some (.int .i64 0) := blk_cell hr9 7
      have t8 : W9.cell? ⟨w.heap.size, 8, none⟩ = some (.int .i64 0) := blk_cell hr9 8
      have t9 : W9.cell? ⟨w.heap.size, 9, none⟩ = some (.int .i64 0) := blk_cell hr9 9
      have t10 : W9.cell? ⟨w.heap.size, 10, none⟩ = some (.slice none 0 0) := blk_cell hr9 10
      refine bodyPost_ret (v := .tuple #[.agg (celA cel0 none 0), .slice none 0 0, .int .i64 3]) (by simp [results, Try.results27, go_sem, cel0, t0, t1, t2, t3, t4, t5, t6, t7, t8, t9, t10]) rfl ?_
      rw [HE.out]
      exact ⟨⟨none, 0, none, 0, rfl, Kd.R_nil _ _ _ _ _, RdB_nil _, Nat.le_refl _⟩, hb9⟩
    | true =>
      have HE := Aside0.mk (show res = (x9, b.drop (11), 0) by rw [hres.out, if_neg HS.out, if_pos hq])
      go_wp2_with (go_at_call 34; go_must (refine (right_any x9 none 0 _ (Ow_rd HD.out.own).2.2 hwf.out.2.2).mono ?_; rintro e y9 ⟨rfl, hb⟩; rw [hq]; replace HD := Aside0.mk (HD.out.below hb); replace r0 := pw_cell_below hb r0; replace r1 := pw_cell_below hb r1; clear c0 c1 c2 c3 c4 c5 c6 c7 c8 c9 c10 q0 q1 q2 q3 t0 zt0 t1 zt1 t2 zt2 t3 zt3 t4 zt4 t5 zt5 t6 zt6 t7 zt7 t8 zt8 t9 zt9 t10 zt10; have hx6 := HD.out.cell; obtain ⟨c0, c1, c2, c3, c4, c5, c6, c7, c8, c9⟩ := cel_at (x := x9) (A := none) (c := 0) hx6; have c10 : y9.cell? ⟨g6, 10, none⟩ = some (.slice none x9.body.length 0) := blk_cell hx6 10; (try simp only at c0 c1 c2 c3 c4 c5 c6 c7 c8 c9); have hx7 := HD.out.pts; have q0 : y9.cell? ⟨g7, 0, none⟩ = some (.bool true) := blk_cell hx7 0; have q1 : y9.cell? ⟨g7, 1, none⟩ = some (.bool false) := blk_cell hx7 1; have q2 : y9.cell? ⟨g7, 2, none⟩ = some (.bool false) := blk_cell hx7 2; have q3 : y9.cell? ⟨g7, 3, none⟩ = some (.bool false) := blk_cell hx7 3; clear hx6 hx7; have hxr := HD.out.res; have t0 : y9.cell? ⟨w.heap.size, 0, none⟩ = some (.int .i64 0) := blk_cell hxr 0; have t1 : y9.cell? ⟨w.heap.size, 1, none⟩ = some (.int .u64 0) := blk_cell hxr 1; have t2 : y9.cell? ⟨w.heap.size, 2, none⟩ = some (.int .i64 0) := blk_cell hxr 2; have t3 : y9.cell? ⟨w.heap.size, 3, none⟩ = some (.int .i64 0) := blk_cell hxr 3; have t4 : y9.cell? ⟨w.heap.size, 4, none⟩ = some (.int .i64 0) := blk_cell hxr 4; have t5 : y9.cell? ⟨w.heap.size, 5, none⟩ = some (.int .i64 0) := blk_cell hxr 5; have t6 : y9.cell? ⟨w.heap.size, 6, none⟩ = some (.int .u64 0) := blk_cell hxr 6; have t7 : y9.cell? ⟨w.heap.size, 7, none⟩ = some (.int .i64 0) := blk_cell hxr 7; have t8 : y9.cell? ⟨w.heap.size, 8, none⟩ = some (.int .i64 0) := blk_cell hxr 8; have t9 : y9.cell? ⟨w.heap.size, 9, none⟩ = some (.int .i64 0) := blk_cell hxr 9; have t10 : y9.cell? ⟨w.heap.size, 10, none⟩ = some (.slice none 0 0) := blk_cell hxr 10; have zt0 := blk_frozen hxr 0; have zt1 := blk_frozen hxr 1; have zt2 := blk_frozen hxr 2; have zt3 := blk_frozen hxr 3; have zt4 := blk_frozen hxr 4; have zt5 := blk_frozen hxr 5; have zt6 := blk_frozen hxr 6; have zt7 := blk_frozen hxr 7; have zt8 := blk_frozen hxr 8; have zt9 := blk_frozen hxr 9; have zt10 := blk_frozen hxr 10; clear hxr; clear hb))
      go_wp2_with (fail)
      refine start_ (n := 8) (S := fun w' => w'.heap[g6]? = some (.cells (celA x9 none 0) 30 (0, 0)) ∧ w'.cell? ⟨p, 0, none⟩ = some (.slice A0 lr k0)) (ds := []) #[false, false, false, false, false, false, false, false] (by kernel_rfl) rfl rfl ⟨(HD.out.below (below_drew (Below.refl _ _))).cell, pw_cell_below (below_drew (Below.refl _ _)) r0⟩ (fun hHeld => ?_); refine with_tab tabD21_ok (fun HT_ => ?_)
      have hb : Below y9.heap.size y9 y9.drew := below_drew (Below.refl _ _)
      skip
      clear hb
      refine take_ (i := 0) (N := some 81) (v := ?_) (a' := ?_) #[true, false, false, false, false, false, false, false] rfl rfl (take_of HT_.out (by kernel_rfl)) (fun _ _ _ h => h) (Or.inl ⟨by rfl, ?_⟩) hHeld ?_ ?_
      rotate_left
      · intro w' hw'
        obtain ⟨s0, s1⟩ := hw'; obtain ⟨c0, c1, c2, c3, c4, c5, c6, c7, c8, c9⟩ := cel_at (x := x9) (A := none) (c := 0) s0; have c10 : w'.cell? ⟨g6, 10, none⟩ = some (.slice none x9.body.length 0) := blk_cell s0 10
        go_simp
        with_reducible rfl
      rotate_left
      · simp only [Act.put, List.setIfInBounds_toArray, List.set_cons_zero, List.set_cons_succ]
        rfl
      refine pure_ (i := 1) (N := some 82) (v := ?_) (a' := ?_) #[true, true, false, false, false, false, false, false] rfl rfl (any_of HT_.out (by kernel_rfl)) (fun _ _ _ h => h) (Or.inl ⟨by rfl, ?_⟩) ?_ ?_
      rotate_left
      · intro w'
        go_simp
        with_reducible rfl
      rotate_left
      · simp only [Act.put, List.setIfInBounds_toArray, List.set_cons_zero, List.set_cons_succ]
        rfl
      refine pure_ (i := 2) (N := some 83) (v := ?_) (a' := ?_) #[true, true, true, false, false, false, false, false] rfl rfl (any_of HT_.out (by kernel_rfl)) (fun _ _ _ h => h) (Or.inl ⟨by rfl, ?_⟩) ?_ ?_
      rotate_left
      · intro w'
        go_simp
        with_reducible rfl
      rotate_left
      · simp only [Act.put, List.setIfInBounds_toArray, List.set_cons_zero, List.set_cons_succ]
        rfl
      refine pure_ (i := 3) (N := some 84) (v := ?_) (a' := ?_) #[true, true, true, true, false, false, false, false] rfl rfl (any_of HT_.out (by kernel_rfl)) (fun _ _ _ h => h) (Or.inl ⟨by rfl, ?_⟩) ?_ ?_
      rotate_left
      · intro w'
        go_simp
        with_reducible rfl
      rotate_left
      · simp only [Act.put, List.setIfInBounds_toArray, List.set_cons_zero, List.set_cons_succ]
        rfl
      refine take_ (i := 4) (N := some 85) (v := ?_) (a' := ?_) #[true, true, true, true, true, false, false, false] rfl rfl (take_of HT_.out (by kernel_rfl)) (fun _ _ _ h => h) (Or.inl ⟨by rfl, ?_⟩) hHeld ?_ ?_
      rotate_left
      · intro w' hw'
        obtain ⟨s0, s1⟩ := hw'
        go_simp
        with_reducible rfl
      rotate_left
      · simp only [Act.put, List.setIfInBounds_toArray, List.set_cons_zero, List.set_cons_succ]
        rfl
      refine one_ (i := 5) (N := none) #[true, true, true, true, true, true, false, false] rfl rfl (one_of HT_.out (by kernel_rfl)) (by decide) (fun Kq_ hK_ => ?_)
      refine skip_ (w1 := ?_) (by rfl) rfl ?_ ?_
      rotate_left
      · go_simp
        first | done | rfl
      refine hK_.out _ _ ⟨put_blk (W := y9) (g := w.heap.size) (x := x9) (A := none) (c := 0) (Nat.ne_of_gt (Nat.lt_trans hord.1 hord.2.1)) HD.out.cell, put_keeps (W := y9) (g := w.heap.size) (x := x9) (A := none) (c := 0) (Nat.ne_of_gt hord.1) r0⟩ (fun hHeld => ?_)
      clear hK_ Kq_
      refine pure_ (i := 6) (N := some 3) (v := ?_) (a' := ?_) #[true, true, true, true, true, true, true, false] rfl rfl (any_of HT_.out (by kernel_rfl)) (fun _ _ _ h => h) (Or.inl ⟨by rfl, ?_⟩) ?_ ?_
      rotate_left
      · intro w'
        go_simp
        with_reducible rfl
      rotate_left
      · simp only [Act.put, List.setIfInBounds_toArray, List.set_cons_zero, List.set_cons_succ]
        rfl
      refine pure_ (i := 7) (N := some 4) (v := ?_) (a' := ?_) #[true, true, true, true, true, true, true, true] rfl rfl (any_of HT_.out (by kernel_rfl)) (fun _ _ _ h => h) (Or.inl ⟨by rfl, ?_⟩) ?_ ?_
      rotate_left
      · intro w'
        go_simp
        with_reducible rfl
      rotate_left
      · simp only [Act.put, List.setIfInBounds_toArray, List.set_cons_zero, List.set_cons_succ]
        rfl
      refine done_ (done_of HT_.out (by kernel_rfl)) ?_
      clear HT_ hHeld
      go_wp2
      obtain ⟨W9, hW9⟩ : ∃ W9, W9 = (putCell y9 w.heap.size x9 none 0).drew := ⟨_, rfl⟩
      rw [← hW9]
      have hr9 : W9.heap[w.heap.size]? = some (.cells (celA x9 none 0) 30 (0, 0)) := by rw [hW9]; exact put_at_ HD.out.res
      have hb9 : Below w.heap.size w W9 := by rw [hW9]; exact put_below_ HD.out.bel (Nat.le_refl _)
      have ho9 : OwB W9 w.heap.size (.slice none x9.body.length 0) x9.body := by rw [hW9]; exact own_put HD.out.own HD.out.res (by decide) (fun k hk => put_far_ hk)
      clear hW9 t0 t1 t2 t3 t4 t5 t6 t7 t8 t9 t10
      have t0 : W9.cell? ⟨w.heap.size, 0, none⟩ = some (.int .i64 x9.kind) := blk_cell hr9 0
      have t1 : W9.cell? ⟨w.heap.size, 1, none⟩ = some (.int .u64 x9.num) := blk_cell hr9 1
      have t2 : W9.cell? ⟨w.heap.size, 2, none⟩ = some (.int .i64 x9.min) := blk_cell hr9 2
      have t3 : W9.cell? ⟨w.heap.size, 3, none⟩ = some (.int .i64 x9.br) := blk_cell hr9 3
      have t4 : W9.cell? ⟨w.heap.size, 4, none⟩ = some (.int .i64 x9.vol) := blk_cell hr9 4
      have t5 : W9.cell? ⟨w.heap.size, 5, none⟩ = some (.int .i64 x9.blk) := blk_cell hr9 5
      have t6 : W9.cell? ⟨w.heap.size, 6, none⟩ = some (.int .u64 x9.ref) := blk_cell hr9 6
      have t7 : W9.cell? ⟨w.heap.size, 7, none⟩ = some (.int .i64 x9.fr) := blk_cell hr9 7
      have t8 : W9.cell? ⟨w.heap.size, 8, none⟩ = some (.int .i64 x9.to) := blk_cell hr9 8
      have t9 : W9.cell? ⟨w.heap.size, 9, none⟩ = some (.int .i64 x9.un) := blk_cell hr9 9
      have t10 : W9.cell? ⟨w.heap.size, 10, none⟩ = some (.slice none x9.body.length 0) := blk_cell hr9 10
      refine bodyPost_ret (v := .tuple #[.agg (celA x9 none 0), .slice A0 lr k0, .int .i64 0]) (by simp [results, Try.results27, go_sem, t0, t1, t2, t3, t4, t5, t6, t7, t8, t9, t10]) rfl ?_
      rw [HE.out]
      have hdl : (b.drop (11)).length = lr := by rw [List.length_drop, HLR.out]
      refine ⟨⟨none, 0, A0, k0, by rw [hdl], ho9, ?_, by rw [hdl, HLR.out]; exact HR0.out.1⟩, hb9⟩
      show Kd.C _ _ _ (b.drop (11)).length _
      rw [List.length_drop]
      exact HR0.out.2
set_option maxHeartbeats 6400000 in
set_option maxRecDepth 100000 in
theorem decode_rm (A : Option Addr) (c : Nat) (b : List Int) (v w : World) (hv : Below v.heap.size v w) (hr : RdB v A b) (hc : b.length ≤ c) (hy : Byt b) (hl : b.length ≤ 1000) (h0 : b.length ≠ 0) (hV : Aside0 (partsV (gv b 0 1) = .agg #[.bool false, .bool true, .bool true, .bool false])) (hK : Aside0 (hasKind (gv b 0 1) = true)) (nb : Nat) (hnb : Aside0 (nb = 0))
    (x9 : Cel) (hx9 : Aside0 (x9 = ⟨gv b 0 1, gv b 1 2, gv b 3 4, 0, 0, 0, gv b 7 2, gv b 9 4, gv b 13 4, gv b 17 4, []⟩)) (hwf : Aside0 (CelWf x9)) (res : Cel × List Int × Int)
    (hres : Aside0 (res = if b.length < 21 then (cel0, [], 14) else if rightB x9 then (x9, b.drop (21), 0) else (cel0, [], 3))) :
    Calls Try.prog 27 #[.slice A b.length c] w fun e w' => (∃ A1 c1 A2 c2, e = .returned (.tuple #[.agg (celA res.1 A1 c1), .slice A2 res.2.1.length c2, .int .i64 res.2.2]) ∧ OwB w' w.heap.size (.slice A1 res.1.body.length c1) res.1.body ∧ RdB v A2 res.2.1 ∧ res.2.1.length ≤ c2) ∧ Below w.heap.size w w' := by
  have hmx := C_max hr
  have HR := Aside0.mk hr
  have HVW := Aside0.mk hv
  have HY := Aside0.mk hy
  have HC := Aside0.mk hc
  have e1 : IntKind.u64.wrap (gv b 1 2) = gv b 1 2 := wrap_u64_in _ (gv_range hy 1 2).1 (by have := (gv_range hy 1 2).2; omega)
  have e7 : IntKind.u64.wrap (gv b 7 2) = gv b 7 2 := wrap_u64_in _ (gv_range hy 7 2).1 (by have := (gv_range hy 7 2).2; omega)
  clear hr hy hc hv
  go_enter Try.func27, Try.ntmps27
  go_upto_region 8 with (first | (go_at_call 39; go_must (refine (num_any (w.heap.size + 1) b 0 1 1 rfl v _ (dec_start HVW.out HR.out HC.out) HY.out (by decide) (by decide)).mono ?_; rintro e w1 ⟨rfl, h2, hk⟩; have HRD := Aside0.mk h2; have HK1 := Aside0.mk hk; clear h2 hk)) | (go_at_call 36; go_must (refine (has_any (gv b 0 1) _).mono ?_; rintro e w2 ⟨rfl, hb⟩; rw [hV.out, hK.out]; have HB2 := Aside0.mk hb; clear hb)))
  obtain ⟨W3, hW3⟩ : ∃ W3, W3 = w2.alloc (.cells #[.bool false, .bool true, .bool true, .bool false] 84) := ⟨_, rfl⟩
  rw [← hW3]
  have HD := Aside0.mk (show DS v w W3 (w.heap.size + 1) w1.heap.size w2.heap.size b 1 ⟨gv b 0 1, 0, 0, 0, 0, 0, 0, 0, 0, 0, []⟩ none 0 #[.bool false, .bool true, .bool true, .bool false] by rw [hW3]; exact dec_first HVW.out HRD.out HK1.out HB2.out)
  obtain ⟨p, hp⟩ : ∃ p, p = w.heap.size + 1 := ⟨_, rfl⟩
  obtain ⟨g6, hg6⟩ : ∃ g, g = w1.heap.size := ⟨_, rfl⟩
  obtain ⟨g7, hg7⟩ : ∃ g, g = w2.heap.size := ⟨_, rfl⟩
  rw [← hp, ← hg6, ← hg7] at HD ⊢
  have hord := HD.out.ord
  clear hW3 HRD HK1 HB2 hp hg6 hg7
  have hx6 := HD.out.cell
  obtain ⟨c0, c1, c2, c3, c4, c5, c6, c7, c8, c9⟩ := cel_at (x := ⟨gv b 0 1, 0, 0, 0, 0, 0, 0, 0, 0, 0, []⟩) (A := none) (c := 0) hx6
  have c10 : W3.cell? ⟨g6, 10, none⟩ = some (.slice none 0 0) := blk_cell hx6 10
  (try simp only at c0 c1 c2 c3 c4 c5 c6 c7 c8 c9)
  have z1 := blk_frozen hx6 1
  have z2 := blk_frozen hx6 2
  have hx7 := HD.out.pts
  have q0 : W3.cell? ⟨g7, 0, none⟩ = some (.bool false) := blk_cell hx7 0
  have q1 : W3.cell? ⟨g7, 1, none⟩ = some (.bool true) := blk_cell hx7 1
  have q2 : W3.cell? ⟨g7, 2, none⟩ = some (.bool true) := blk_cell hx7 2
  have q3 : W3.cell? ⟨g7, 3, none⟩ = some (.bool false) := blk_cell hx7 3
  clear hx6 hx7
  go_upto_region 12 with (first
    | (go_at_call 39; (with_reducible refine (num_any p b 1 2 2 rfl v W3 HD.out.rd HY.out (by decide) (by decide)).mono ?_); go_must (rintro e y1 ⟨rfl, h2, hk⟩; replace HD := Aside0.mk (HD.out.num h2 hk); clear c0 c1 c2 c3 c4 c5 c6 c7 c8 c9 c10 q0 q1 q2 q3 z1 z2; have hx6 := HD.out.cell; obtain ⟨c0, c1, c2, c3, c4, c5, c6, c7, c8, c9⟩ := cel_at (x := ⟨gv b 0 1, 0, 0, 0, 0, 0, 0, 0, 0, 0, []⟩) (A := none) (c := 0) hx6; have c10 : y1.cell? ⟨g6, 10, none⟩ = some (.slice none 0 0) := blk_cell hx6 10; (try simp only at c0 c1 c2 c3 c4 c5 c6 c7 c8 c9); have z1 := blk_frozen hx6 1; have z2 := blk_frozen hx6 2; have hx7 := HD.out.pts; have q0 : y1.cell? ⟨g7, 0, none⟩ = some (.bool false) := blk_cell hx7 0; have q1 : y1.cell? ⟨g7, 1, none⟩ = some (.bool true) := blk_cell hx7 1; have q2 : y1.cell? ⟨g7, 2, none⟩ = some (.bool true) := blk_cell hx7 2; have q3 : y1.cell? ⟨g7, 3, none⟩ = some (.bool false) := blk_cell hx7 3; clear hx6 hx7; clear h2 hk))
    | (go_at_call 39; (with_reducible refine (num_any p b 3 4 4 rfl v y1 HD.out.rd HY.out (by decide) (by decide)).mono ?_); go_must (rintro e y2 ⟨rfl, h2, hk⟩; replace HD := Aside0.mk (HD.out.num h2 hk); clear c0 c1 c2 c3 c4 c5 c6 c7 c8 c9 c10 q0 q1 q2 q3 z1 z2; have hx6 := HD.out.cell; obtain ⟨c0, c1, c2, c3, c4, c5, c6, c7, c8, c9⟩ := cel_at (x := ⟨gv b 0 1, 0, 0, 0, 0, 0, 0, 0, 0, 0, []⟩) (A := none) (c := 0) hx6; have c10 : y2.cell? ⟨g6, 10, none⟩ = some (.slice none 0 0) := blk_cell hx6 10; (try simp only at c0 c1 c2 c3 c4 c5 c6 c7 c8 c9); have z1 := blk_frozen hx6 1; have z2 := blk_frozen hx6 2; have hx7 := HD.out.pts; have q0 : y2.cell? ⟨g7, 0, none⟩ = some (.bool false) := blk_cell hx7 0; have q1 : y2.cell? ⟨g7, 1, none⟩ = some (.bool true) := blk_cell hx7 1; have q2 : y2.cell? ⟨g7, 2, none⟩ = some (.bool true) := blk_cell hx7 2; have q3 : y2.cell? ⟨g7, 3, none⟩ = some (.bool false) := blk_cell hx7 3; clear hx6 hx7; clear h2 hk)))
  obtain ⟨V8, hV8⟩ : ∃ W, W = ((y2.setCell ⟨g6, 1, none⟩ (.int .u64 (gv b 1 2))).setCell ⟨g6, 2, none⟩ (.int .i64 (gv b 3 4))) := ⟨_, rfl⟩
  rw [← hV8]
  replace HD := Aside0.mk (show DS v w V8 p g6 g7 b (7) ⟨gv b 0 1, gv b 1 2, gv b 3 4, 0, 0, 0, 0, 0, 0, 0, []⟩ none 0 #[.bool false, .bool true, .bool true, .bool false] by rw [hV8]; exact ((HD.out.set_ 1 (.int .u64 (gv b 1 2)) (x' := ⟨gv b 0 1, gv b 1 2, 0, 0, 0, 0, 0, 0, 0, 0, []⟩) rfl rfl).set_ 2 (.int .i64 (gv b 3 4)) (x' := ⟨gv b 0 1, gv b 1 2, gv b 3 4, 0, 0, 0, 0, 0, 0, 0, []⟩) rfl rfl))
  clear hV8; clear c0 c1 c2 c3 c4 c5 c6 c7 c8 c9 c10 q0 q1 q2 q3 z1 z2
  have hx6 := HD.out.cell
  obtain ⟨c0, c1, c2, c3, c4, c5, c6, c7, c8, c9⟩ := cel_at (x := ⟨gv b 0 1, gv b 1 2, gv b 3 4, 0, 0, 0, 0, 0, 0, 0, []⟩) (A := none) (c := 0) hx6
  have c10 : V8.cell? ⟨g6, 10, none⟩ = some (.slice none 0 0) := blk_cell hx6 10
  (try simp only at c0 c1 c2 c3 c4 c5 c6 c7 c8 c9)
  have z6 := blk_frozen hx6 6
  have hx7 := HD.out.pts
  have q0 : V8.cell? ⟨g7, 0, none⟩ = some (.bool false) := blk_cell hx7 0
  have q1 : V8.cell? ⟨g7, 1, none⟩ = some (.bool true) := blk_cell hx7 1
  have q2 : V8.cell? ⟨g7, 2, none⟩ = some (.bool true) := blk_cell hx7 2
  have q3 : V8.cell? ⟨g7, 3, none⟩ = some (.bool false) := blk_cell hx7 3
  clear hx6 hx7
  go_upto_region 14 with (first
    | (go_at_call 39; (with_reducible refine (num_any p b 7 2 2 rfl v V8 HD.out.rd HY.out (by decide) (by decide)).mono ?_); go_must (rintro e y1 ⟨rfl, h2, hk⟩; replace HD := Aside0.mk (HD.out.num h2 hk); clear c0 c1 c2 c3 c4 c5 c6 c7 c8 c9 c10 q0 q1 q2 q3 z6; have hx6 := HD.out.cell; obtain ⟨c0, c1, c2, c3, c4, c5, c6, c7, c8, c9⟩ := cel_at (x := ⟨gv b 0 1, gv b 1 2, gv b 3 4, 0, 0, 0, 0, 0, 0, 0, []⟩) (A := none) (c := 0) hx6; have c10 : y1.cell? ⟨g6, 10, none⟩ = some (.slice none 0 0) := blk_cell hx6 10; (try simp only at c0 c1 c2 c3 c4 c5 c6 c7 c8 c9); have z6 := blk_frozen hx6 6; have hx7 := HD.out.pts; have q0 : y1.cell? ⟨g7, 0, none⟩ = some (.bool false) := blk_cell hx7 0; have q1 : y1.cell? ⟨g7, 1, none⟩ = some (.bool true) := blk_cell hx7 1; have q2 : y1.cell? ⟨g7, 2, none⟩ = some (.bool true) := blk_cell hx7 2; have q3 : y1.cell? ⟨g7, 3, none⟩ = some (.bool false) := blk_cell hx7 3; clear hx6 hx7; clear h2 hk)))
  obtain ⟨V12, hV12⟩ : ∃ W, W = (y1.setCell ⟨g6, 6, none⟩ (.int .u64 (gv b 7 2))) := ⟨_, rfl⟩
  rw [← hV12]
  replace HD := Aside0.mk (show DS v w V12 p g6 g7 b (9) ⟨gv b 0 1, gv b 1 2, gv b 3 4, 0, 0, 0, gv b 7 2, 0, 0, 0, []⟩ none 0 #[.bool false, .bool true, .bool true, .bool false] by rw [hV12]; exact (HD.out.set_ 6 (.int .u64 (gv b 7 2)) (x' := ⟨gv b 0 1, gv b 1 2, gv b 3 4, 0, 0, 0, gv b 7 2, 0, 0, 0, []⟩) rfl rfl))
  clear hV12; clear c0 c1 c2 c3 c4 c5 c6 c7 c8 c9 c10 q0 q1 q2 q3 z6
  have hx6 := HD.out.cell
  obtain ⟨c0, c1, c2, c3, c4, c5, c6, c7, c8, c9⟩ := cel_at (x := ⟨gv b 0 1, gv b 1 2, gv b 3 4, 0, 0, 0, gv b 7 2, 0, 0, 0, []⟩) (A := none) (c := 0) hx6
  have c10 : V12.cell? ⟨g6, 10, none⟩ = some (.slice none 0 0) := blk_cell hx6 10
  (try simp only at c0 c1 c2 c3 c4 c5 c6 c7 c8 c9)
  have z7 := blk_frozen hx6 7
  have z8 := blk_frozen hx6 8
  have z9 := blk_frozen hx6 9
  have hx7 := HD.out.pts
  have q0 : V12.cell? ⟨g7, 0, none⟩ = some (.bool false) := blk_cell hx7 0
  have q1 : V12.cell? ⟨g7, 1, none⟩ = some (.bool true) := blk_cell hx7 1
  have q2 : V12.cell? ⟨g7, 2, none⟩ = some (.bool true) := blk_cell hx7 2
  have q3 : V12.cell? ⟨g7, 3, none⟩ = some (.bool false) := blk_cell hx7 3
  clear hx6 hx7
  go_upto_region 17 with (first
    | (go_at_call 39; (with_reducible refine (num_any p b 9 4 4 rfl v V12 HD.out.rd HY.out (by decide) (by decide)).mono ?_); go_must (rintro e y1 ⟨rfl, h2, hk⟩; replace HD := Aside0.mk (HD.out.num h2 hk); clear c0 c1 c2 c3 c4 c5 c6 c7 c8 c9 c10 q0 q1 q2 q3 z7 z8 z9; have hx6 := HD.out.cell; obtain ⟨c0, c1, c2, c3, c4, c5, c6, c7, c8, c9⟩ := cel_at (x := ⟨gv b 0 1, gv b 1 2, gv b 3 4, 0, 0, 0, gv b 7 2, 0, 0, 0, []⟩) (A := none) (c := 0) hx6; have c10 : y1.cell? ⟨g6, 10, none⟩ = some (.slice none 0 0) := blk_cell hx6 10; (try simp only at c0 c1 c2 c3 c4 c5 c6 c7 c8 c9); have z7 := blk_frozen hx6 7; have z8 := blk_frozen hx6 8; have z9 := blk_frozen hx6 9; have hx7 := HD.out.pts; have q0 : y1.cell? ⟨g7, 0, none⟩ = some (.bool false) := blk_cell hx7 0; have q1 : y1.cell? ⟨g7, 1, none⟩ = some (.bool true) := blk_cell hx7 1; have q2 : y1.cell? ⟨g7, 2, none⟩ = some (.bool true) := blk_cell hx7 2; have q3 : y1.cell? ⟨g7, 3, none⟩ = some (.bool false) := blk_cell hx7 3; clear hx6 hx7; clear h2 hk))
    | (go_at_call 39; (with_reducible refine (num_any p b 13 4 4 rfl v y1 HD.out.rd HY.out (by decide) (by decide)).mono ?_); go_must (rintro e y2 ⟨rfl, h2, hk⟩; replace HD := Aside0.mk (HD.out.num h2 hk); clear c0 c1 c2 c3 c4 c5 c6 c7 c8 c9 c10 q0 q1 q2 q3 z7 z8 z9; have hx6 := HD.out.cell; obtain ⟨c0, c1, c2, c3, c4, c5, c6, c7, c8, c9⟩ := cel_at (x := ⟨gv b 0 1, gv b 1 2, gv b 3 4, 0, 0, 0, gv b 7 2, 0, 0, 0, []⟩) (A := none) (c := 0) hx6; have c10 : y2.cell? ⟨g6, 10, none⟩ = some (.slice none 0 0) := blk_cell hx6 10; (try simp only at c0 c1 c2 c3 c4 c5 c6 c7 c8 c9); have z7 := blk_frozen hx6 7; have z8 := blk_frozen hx6 8; have z9 := blk_frozen hx6 9; have hx7 := HD.out.pts; have q0 : y2.cell? ⟨g7, 0, none⟩ = some (.bool false) := blk_cell hx7 0; have q1 : y2.cell? ⟨g7, 1, none⟩ = some (.bool true) := blk_cell hx7 1; have q2 : y2.cell? ⟨g7, 2, none⟩ = some (.bool true) := blk_cell hx7 2; have q3 : y2.cell? ⟨g7, 3, none⟩ = some (.bool false) := blk_cell hx7 3; clear hx6 hx7; clear h2 hk))
    | (go_at_call 39; (with_reducible refine (num_any p b 17 4 4 rfl v y2 HD.out.rd HY.out (by decide) (by decide)).mono ?_); go_must (rintro e y3 ⟨rfl, h2, hk⟩; replace HD := Aside0.mk (HD.out.num h2 hk); clear c0 c1 c2 c3 c4 c5 c6 c7 c8 c9 c10 q0 q1 q2 q3 z7 z8 z9; have hx6 := HD.out.cell; obtain ⟨c0, c1, c2, c3, c4, c5, c6, c7, c8, c9⟩ := cel_at (x := ⟨gv b 0 1, gv b 1 2, gv b 3 4, 0, 0, 0, gv b 7 2, 0, 0, 0, []⟩) (A := none) (c := 0) hx6; have c10 : y3.cell? ⟨g6, 10, none⟩ = some (.slice none 0 0) := blk_cell hx6 10; (try simp only at c0 c1 c2 c3 c4 c5 c6 c7 c8 c9); have z7 := blk_frozen hx6 7; have z8 := blk_frozen hx6 8; have z9 := blk_frozen hx6 9; have hx7 := HD.out.pts; have q0 : y3.cell? ⟨g7, 0, none⟩ = some (.bool false) := blk_cell hx7 0; have q1 : y3.cell? ⟨g7, 1, none⟩ = some (.bool true) := blk_cell hx7 1; have q2 : y3.cell? ⟨g7, 2, none⟩ = some (.bool true) := blk_cell hx7 2; have q3 : y3.cell? ⟨g7, 3, none⟩ = some (.bool false) := blk_cell hx7 3; clear hx6 hx7; clear h2 hk)))
  obtain ⟨V14, hV14⟩ : ∃ W, W = (((y3.setCell ⟨g6, 7, none⟩ (.int .i64 (gv b 9 4))).setCell ⟨g6, 8, none⟩ (.int .i64 (gv b 13 4))).setCell ⟨g6, 9, none⟩ (.int .i64 (gv b 17 4))) := ⟨_, rfl⟩
  rw [← hV14]
  replace HD := Aside0.mk (show DS v w V14 p g6 g7 b (21) ⟨gv b 0 1, gv b 1 2, gv b 3 4, 0, 0, 0, gv b 7 2, gv b 9 4, gv b 13 4, gv b 17 4, []⟩ none 0 #[.bool false, .bool true, .bool true, .bool false] by rw [hV14]; exact (((HD.out.set_ 7 (.int .i64 (gv b 9 4)) (x' := ⟨gv b 0 1, gv b 1 2, gv b 3 4, 0, 0, 0, gv b 7 2, gv b 9 4, 0, 0, []⟩) rfl rfl).set_ 8 (.int .i64 (gv b 13 4)) (x' := ⟨gv b 0 1, gv b 1 2, gv b 3 4, 0, 0, 0, gv b 7 2, gv b 9 4, gv b 13 4, 0, []⟩) rfl rfl).set_ 9 (.int .i64 (gv b 17 4)) (x' := ⟨gv b 0 1, gv b 1 2, gv b 3 4, 0, 0, 0, gv b 7 2, gv b 9 4, gv b 13 4, gv b 17 4, []⟩) rfl rfl))
  clear hV14; clear c0 c1 c2 c3 c4 c5 c6 c7 c8 c9 c10 q0 q1 q2 q3 z7 z8 z9
  replace HD := Aside0.mk (show DS v w V14 p g6 g7 b (21) x9 none 0 #[.bool false, .bool true, .bool true, .bool false] by rw [hx9.out]; exact HD.out)
  obtain ⟨hrd1, hrd2, A0, k0, hk0, hr0, hp0⟩ := HD.out.rd
  have r0 : V14.cell? ⟨p, 0, none⟩ = some (.slice A0 (b.length - (21)) k0) := blk_cell hp0 0
  have r1 : V14.cell? ⟨p, 1, none⟩ = some (.bool (decide (b.length < 21))) := blk_cell hp0 1
  have HR0 := Aside0.mk (And.intro hk0 hr0)
  clear hrd1 hrd2 hk0 hr0 hp0
  obtain ⟨lr, hlr⟩ : ∃ lr, lr = b.length - (21) := ⟨_, rfl⟩
  rw [← hlr] at r0
  have HLR := Aside0.mk hlr
  clear hlr
  have hx6 := HD.out.cell
  obtain ⟨c0, c1, c2, c3, c4, c5, c6, c7, c8, c9⟩ := cel_at (x := x9) (A := none) (c := 0) hx6
  have c10 : V14.cell? ⟨g6, 10, none⟩ = some (.slice none x9.body.length 0) := blk_cell hx6 10
  (try simp only at c0 c1 c2 c3 c4 c5 c6 c7 c8 c9)
  have hx7 := HD.out.pts
  have q0 : V14.cell? ⟨g7, 0, none⟩ = some (.bool false) := blk_cell hx7 0
  have q1 : V14.cell? ⟨g7, 1, none⟩ = some (.bool true) := blk_cell hx7 1
  have q2 : V14.cell? ⟨g7, 2, none⟩ = some (.bool true) := blk_cell hx7 2
  have q3 : V14.cell? ⟨g7, 3, none⟩ = some (.bool false) := blk_cell hx7 3
  clear hx6 hx7
  have hxr := HD.out.res
  have t0 : V14.cell? ⟨w.heap.size, 0, none⟩ = some (.int .i64 0) := blk_cell hxr 0
  have t1 : V14.cell? ⟨w.heap.size, 1, none⟩ = some (.int .u64 0) := blk_cell hxr 1
  have t2 : V14.cell? ⟨w.heap.size, 2, none⟩ = some (.int .i64 0) := blk_cell hxr 2
  have t3 : V14.cell? ⟨w.heap.size, 3, none⟩ = some (.int .i64 0) := blk_cell hxr 3
  have t4 : V14.cell? ⟨w.heap.size, 4, none⟩ = some (.int .i64 0) := blk_cell hxr 4
  have t5 : V14.cell? ⟨w.heap.size, 5, none⟩ = some (.int .i64 0) := blk_cell hxr 5
  have t6 : V14.cell? ⟨w.heap.size, 6, none⟩ = some (.int .u64 0) := blk_cell hxr 6
  have t7 : V14.cell? ⟨w.heap.size, 7, none⟩ = some (.int .i64 0) := blk_cell hxr 7
  have t8 : V14.cell? ⟨w.heap.size, 8, none⟩ = some (.int .i64 0) := blk_cell hxr 8
  have t9 : V14.cell? ⟨w.heap.size, 9, none⟩ = some (.int .i64 0) := blk_cell hxr 9
  have t10 : V14.cell? ⟨w.heap.size, 10, none⟩ = some (.slice none 0 0) := blk_cell hxr 10
  have zt0 := blk_frozen hxr 0
  have zt1 := blk_frozen hxr 1
  have zt2 := blk_frozen hxr 2
  have zt3 := blk_frozen hxr 3
  have zt4 := blk_frozen hxr 4
  have zt5 := blk_frozen hxr 5
  have zt6 := blk_frozen hxr 6
  have zt7 := blk_frozen hxr 7
  have zt8 := blk_frozen hxr 8
  have zt9 := blk_frozen hxr 9
  have zt10 := blk_frozen hxr 10
  clear hxr
  cases hs : decide (b.length < 21) with
  | true =>
    rw [hs] at r1
    have HE := Aside0.mk (show res = (cel0, [], 14) by rw [hres.out, if_pos (of_decide_eq_true hs)])
    clear hs
    go_wp2
    obtain ⟨W9, hW9⟩ : ∃ W9, W9 = (((((((((((V14.setCell ⟨w.heap.size, 0, none⟩ (.int .i64 0)).setCell ⟨w.heap.size, 1, none⟩ (.int .u64 0)).setCell ⟨w.heap.size, 2, none⟩ (.int .i64 0)).setCell ⟨w.heap.size, 3, none⟩ (.int .i64 0)).setCell ⟨w.heap.size, 4, none⟩ (.int .i64 0)).setCell ⟨w.heap.size, 5, none⟩ (.int .i64 0)).setCell ⟨w.heap.size, 6, none⟩ (.int .u64 0)).setCell ⟨w.heap.size, 7, none⟩ (.int .i64 0)).setCell ⟨w.heap.size, 8, none⟩ (.int .i64 0)).setCell ⟨w.heap.size, 9, none⟩ (.int .i64 0)).setCell ⟨w.heap.size, 10, none⟩ (.slice none 0 0)) := ⟨_, rfl⟩
    rw [← hW9]
    have hr9 : W9.heap[w.heap.size]? = some (.cells (celA cel0 none 0) 30 (0, 0)) := by rw [hW9]; exact putCell_at (x := cel0) (A := none) (c := 0) HD.out.res
    have hb9 : Below w.heap.size w W9 := by rw [hW9]; exact putCell_below (x := cel0) (A := none) (c := 0) HD.out.bel (Nat.le_refl _)
    clear hW9 t0 t1 t2 t3 t4 t5 t6 t7 t8 t9 t10
    have t0 : W9.cell? ⟨w.heap.size, 0, none⟩ = some (.int .i64 0) := blk_cell hr9 0
    have t1 : W9.cell? ⟨w.heap.size, 1, none⟩ = some (.int .u64 0) := blk_cell hr9 1
    have t2 : W9.cell? ⟨w.heap.size, 2, none⟩ = some (.int .i64 0) := blk_cell hr9 2
    have t3 : W9.cell? ⟨w.heap.size, 3, none⟩ = some (.int .i64 0) := blk_cell hr9 3
    have t4 : W9.cell? ⟨w.heap.size, 4, none⟩ = some (.int .i64 0) := blk_cell hr9 4
    have t5 : W9.cell? ⟨w.heap.size, 5, none⟩ = some (.int .i64 0) := blk_cell hr9 5
    have t6 : W9.cell? ⟨w.heap.size, 6, none⟩ = some (.int .u64 0) := blk_cell hr9 6
    have t7 : W9.cell? ⟨w.heap.size, 7, none⟩ = some (.int .i64 0) := blk_cell hr9 7
    have t8 : W9.cell? ⟨w.heap.size, 8, none⟩ = some (.int .i64 0) := blk_cell hr9 8
    have t9 : W9.cell? ⟨w.heap.size, 9, none⟩ = some (.int .i64 0) := blk_cell hr9 9
    have t10 : W9.cell? ⟨w.heap.size, 10, none⟩ = some (.slice none 0 0) := blk_cell hr9 10
    refine bodyPost_ret (v := .tuple #[.agg (celA cel0 none 0), .slice none 0 0, .int .i64 14]) (by simp [results, Try.results27, go_sem, cel0, t0, t1, t2, t3, t4, t5, t6, t7, t8, t9, t10]) rfl ?_
    rw [HE.out]
    exact ⟨⟨none, 0, none, 0, rfl, Kd.R_nil _ _ _ _ _, RdB_nil _, Nat.le_refl _⟩, hb9⟩
  | false =>
    rw [hs] at r1
    have HS := Aside0.mk (of_decide_eq_false hs)
    clear hs
    cases hq : rightB x9 with
    | false =>
      have HE := Aside0.mk (show res = (cel0, [], 3) by rw [hres.out, if_neg HS.out, if_neg (by rw [hq]; simp)])
      go_wp2_with (go_at_call 34; go_must (refine (right_any x9 none 0 _ (Ow_rd HD.out.own).2.2 hwf.out.2.2).mono ?_; rintro e y9 ⟨rfl, hb⟩; rw [hq]; replace HD := Aside0.mk (HD.out.below hb); replace r0 := pw_cell_below hb r0; replace r1 := pw_cell_below hb r1; clear c0 c1 c2 c3 c4 c5 c6 c7 c8 c9 c10 q0 q1 q2 q3 t0 zt0 t1 zt1 t2 zt2 t3 zt3 t4 zt4 t5 zt5 t6 zt6 t7 zt7 t8 zt8 t9 zt9 t10 zt10; have hx6 := HD.out.cell; obtain ⟨c0, c1, c2, c3, c4, c5, c6, c7, c8, c9⟩ := cel_at (x := x9) (A := none) (c := 0) hx6; have c10 : y9.cell? ⟨g6, 10, none⟩ = some (.slice none x9.body.length 0) := blk_cell hx6 10; (try simp only at c0 c1 c2 c3 c4 c5 c6 c7 c8 c9); have hx7 := HD.out.pts; have q0 : y9.cell? ⟨g7, 0, none⟩ = some (.bool false) := blk_cell hx7 0; have q1 : y9.cell? ⟨g7, 1, none⟩ = some (.bool true) := blk_cell hx7 1; have q2 : y9.cell? ⟨g7, 2, none⟩ = some (.bool true) := blk_cell hx7 2; have q3 : y9.cell? ⟨g7, 3, none⟩ = some (.bool false) := blk_cell hx7 3; clear hx6 hx7; have hxr := HD.out.res; have t0 : y9.cell? ⟨w.heap.size, 0, none⟩ = some (.int .i64 0) := blk_cell hxr 0; have t1 : y9.cell? ⟨w.heap.size, 1, none⟩ = some (.int .u64 0) := blk_cell hxr 1; have t2 : y9.cell? ⟨w.heap.size, 2, none⟩ = some (.int .i64 0) := blk_cell hxr 2; have t3 : y9.cell? ⟨w.heap.size, 3, none⟩ = some (.int .i64 0) := blk_cell hxr 3; have t4 : y9.cell? ⟨w.heap.size, 4, none⟩ = some (.int .i64 0) := blk_cell hxr 4; have t5 : y9.cell? ⟨w.heap.size, 5, none⟩ = some (.int .i64 0) := blk_cell hxr 5; have t6 : y9.cell? ⟨w.heap.size, 6, none⟩ = some (.int .u64 0) := blk_cell hxr 6; have t7 : y9.cell? ⟨w.heap.size, 7, none⟩ = some (.int .i64 0) := blk_cell hxr 7; have t8 : y9.cell? ⟨w.heap.size, 8, none⟩ = some (.int .i64 0) := blk_cell hxr 8; have t9 : y9.cell? ⟨w.heap.size, 9, none⟩ = some (.int .i64 0) := blk_cell hxr 9; have t10 : y9.cell? ⟨w.heap.size, 10, none⟩ = some (.slice none 0 0) := blk_cell hxr 10; have zt0 := blk_frozen hxr 0; have zt1 := blk_frozen hxr 1; have zt2 := blk_frozen hxr 2; have zt3 := blk_frozen hxr 3; have zt4 := blk_frozen hxr 4; have zt5 := blk_frozen hxr 5; have zt6 := blk_frozen hxr 6; have zt7 := blk_frozen hxr 7; have zt8 := blk_frozen hxr 8; have zt9 := blk_frozen hxr 9; have zt10 := blk_frozen hxr 10; clear hxr; clear hb))
      obtain ⟨W9, hW9⟩ : ∃ W9, W9 = (((((((((((y9.setCell ⟨w.heap.size, 0, none⟩ (.int .i64 0)).setCell ⟨w.heap.size, 1, none⟩ (.int .u64 0)).setCell ⟨w.heap.size, 2, none⟩ (.int .i64 0)).setCell ⟨w.heap.size, 3, none⟩ (.int .i64 0)).setCell ⟨w.heap.size, 4, none⟩ (.int .i64 0)).setCell ⟨w.heap.size, 5, none⟩ (.int .i64 0)).setCell ⟨w.heap.size, 6, none⟩ (.int .u64 0)).setCell ⟨w.heap.size, 7, none⟩ (.int .i64 0)).setCell ⟨w.heap.size, 8, none⟩ (.int .i64 0)).setCell ⟨w.heap.size, 9, none⟩ (.int .i64 0)).setCell ⟨w.heap.size, 10, none⟩ (.slice none 0 0)) := ⟨_, rfl⟩
      rw [← hW9]
      have hr9 : W9.heap[w.heap.size]? = some (.cells (celA cel0 none 0) 30 (0, 0)) := by rw [hW9]; exact putCell_at (x := cel0) (A := none) (c := 0) HD.out.res
      have hb9 : Below w.heap.size w W9 := by rw [hW9]; exact putCell_below (x := cel0) (A := none) (c := 0) HD.out.bel (Nat.le_refl _)
      clear hW9 t0 t1 t2 t3 t4 t5 t6 t7 t8 t9 t10
      have t0 : W9.cell? ⟨w.heap.size, 0, none⟩ = some (.int .i64 0) := blk_cell hr9 0
      have t1 : W9.cell? ⟨w.heap.size, 1, none⟩ = some (.int .u64 0) := blk_cell hr9 1
      have t2 : W9.cell? ⟨w.heap.size, 2, none⟩ = some (.int .i64 0) := blk_cell hr9 2
      have t3 : W9.cell? ⟨w.heap.size, 3, none⟩ = some (.int .i64 0) := blk_cell hr9 3
      have t4 : W9.cell? ⟨w.heap.size, 4, none⟩ = some (.int .i64 0) := blk_cell hr9 4
      have t5 : W9.cell? ⟨w.heap.size, 5, none⟩ = some (.int .i64 0) := blk_cell hr9 5
      have t6 : W9.cell? ⟨w.heap.size, 6, none⟩ = some (.int .u64 0) := blk_cell hr9 6
      have t7 : W9.cell? ⟨w.heap.size, 7, none⟩ = some (.int .i64 0) := blk_cell hr9 7
      have t8 : W9.cell? ⟨w.heap.size, 8, none⟩ = some (.int .i64 0) := blk_cell hr9 8
      have t9 : W9.cell? ⟨w.heap.size, 9, none⟩ = some (.int .i64 0) := blk_cell hr9 9
      have t10 : W9.cell? ⟨w.heap.size, 10, none⟩ = some (.slice none 0 0) := blk_cell hr9 10
      refine bodyPost_ret (v := .tuple #[.agg (celA cel0 none 0), .slice none 0 0, .int .i64 3]) (by simp [results, Try.results27, go_sem, cel0, t0, t1, t2, t3, t4, t5, t6, t7, t8, t9, t10]) rfl ?_
      rw [HE.out]
      exact ⟨⟨none, 0, none, 0, rfl, Kd.R_nil _ _ _ _ _, RdB_nil _, Nat.le_refl _⟩, hb9⟩
    | true =>
      have HE := Aside0.mk (show res = (x9, b.drop (21), 0) by rw [hres.out, if_neg HS.out, if_pos hq])
      go_wp2_with (go_at_call 34; go_must (refine (right_any x9 none 0 _ (Ow_rd HD.out.own).2.2 hwf.out.2.2).mono ?_; rintro e y9 ⟨rfl, hb⟩; rw [hq]; replace HD := Aside0.mk (HD.out.below hb); replace r0 := pw_cell_below hb r0; replace r1 := pw_cell_below hb r1; clear c0 c1 c2 c3 c4 c5 c6 c7 c8 c9 c10 q0 q1 q2 q3 t0 zt0 t1 zt1 t2 zt2 t3 zt3 t4 zt4 t5 zt5 t6 zt6 t7 zt7 t8 zt8 t9 zt9 t10 zt10; have hx6 := HD.out.cell; obtain ⟨c0, c1, c2, c3, c4, c5, c6, c7, c8, c9⟩ := cel_at (x := x9) (A := none) (c := 0) hx6; have c10 : y9.cell? ⟨g6, 10, none⟩ = some (.slice none x9.body.length 0) := blk_cell hx6 10; (try simp only at c0 c1 c2 c3 c4 c5 c6 c7 c8 c9); have hx7 := HD.out.pts; have q0 : y9.cell? ⟨g7, 0, none⟩ = some (.bool false) := blk_cell hx7 0; have q1 : y9.cell? ⟨g7, 1, none⟩ = some (.bool true) := blk_cell hx7 1; have q2 : y9.cell? ⟨g7, 2, none⟩ = some (.bool true) := blk_cell hx7 2; have q3 : y9.cell? ⟨g7, 3, none⟩ = some (.bool false) := blk_cell hx7 3; clear hx6 hx7; have hxr := HD.out.res; have t0 : y9.cell? ⟨w.heap.size, 0, none⟩ = some (.int .i64 0) := blk_cell hxr 0; have t1 : y9.cell? ⟨w.heap.size, 1, none⟩ = some (.int .u64 0) := blk_cell hxr 1; have t2 : y9.cell? ⟨w.heap.size, 2, none⟩ = some (.int .i64 0) := blk_cell hxr 2; have t3 : y9.cell? ⟨w.heap.size, 3, none⟩ = some (.int .i64 0) := blk_cell hxr 3; have t4 : y9.cell? ⟨w.heap.size, 4, none⟩ = some (.int .i64 0) := blk_cell hxr 4; have t5 : y9.cell? ⟨w.heap.size, 5, none⟩ = some (.int .i64 0) := blk_cell hxr 5; have t6 : y9.cell? ⟨w.heap.size, 6, none⟩ = some (.int .u64 0) := blk_cell hxr 6; have t7 : y9.cell? ⟨w.heap.size, 7, none⟩ = some (.int .i64 0) := blk_cell hxr 7; have t8 : y9.cell? ⟨w.heap.size, 8, none⟩ = some (.int .i64 0) := blk_cell hxr 8; have t9 : y9.cell? ⟨w.heap.size, 9, none⟩ = some (.int .i64 0) := blk_cell hxr 9; have t10 : y9.cell? ⟨w.heap.size, 10, none⟩ = some (.slice none 0 0) := blk_cell hxr 10; have zt0 := blk_frozen hxr 0; have zt1 := blk_frozen hxr 1; have zt2 := blk_frozen hxr 2; have zt3 := blk_frozen hxr 3; have zt4 := blk_frozen hxr 4; have zt5 := blk_frozen hxr 5; have zt6 := blk_frozen hxr 6; have zt7 := blk_frozen hxr 7; have zt8 := blk_frozen hxr 8; have zt9 := blk_frozen hxr 9; have zt10 := blk_frozen hxr 10; clear hxr; clear hb))
      go_wp2_with (fail)
      refine start_ (n := 8) (S := fun w' => w'.heap[g6]? = some (.cells (celA x9 none 0) 30 (0, 0)) ∧ w'.cell? ⟨p, 0, none⟩ = some (.slice A0 lr k0)) (ds := []) #[false, false, false, false, false, false, false, false] (by kernel_rfl) rfl rfl ⟨(HD.out.below (below_drew (Below.refl _ _))).cell, pw_cell_below (below_drew (Below.refl _ _)) r0⟩ (fun hHeld => ?_); refine with_tab tabD21_ok (fun HT_ => ?_)
      have hb : Below y9.heap.size y9 y9.drew := below_drew (Below.refl _ _)
      skip
      clear hb
      refine take_ (i := 0) (N := some 81) (v := ?_) (a' := ?_) #[true, false, false, false, false, false, false, false] rfl rfl (take_of HT_.out (by kernel_rfl)) (fun _ _ _ h => h) (Or.inl ⟨by rfl, ?_⟩) hHeld ?_ ?_
      rotate_left
      · intro w' hw'
        obtain ⟨s0, s1⟩ := hw'; obtain ⟨c0, c1, c2, c3, c4, c5, c6, c7, c8, c9⟩ := cel_at (x := x9) (A := none) (c := 0) s0; have c10 : w'.cell? ⟨g6, 10, none⟩ = some (.slice none x9.body.length 0) := blk_cell s0 10
        go_simp
        with_reducible rfl
      rotate_left
      · simp only [Act.put, List.setIfInBounds_toArray, List.set_cons_zero, List.set_cons_succ]
        rfl
      refine pure_ (i := 1) (N := some 82) (v := ?_) (a' := ?_) #[true, true, false, false, false, false, false, false] rfl rfl (any_of HT_.out (by kernel_rfl)) (fun _ _ _ h => h) (Or.inl ⟨by rfl, ?_⟩) ?_ ?_
      rotate_left
      · intro w'
        go_simp
        with_reducible rfl
      rotate_left
      · simp only [Act.put, List.setIfInBounds_toArray, List.set_cons_zero, List.set_cons_succ]
        rfl
      refine pure_ (i := 2) (N := some 83) (v := ?_) (a' := ?_) #[true, true, true, false, false, false, false, false] rfl rfl (any_of HT_.out (by kernel_rfl)) (fun _ _ _ h => h) (Or.inl ⟨by rfl, ?_⟩) ?_ ?_
      rotate_left
      · intro w'
        go_simp
        with_reducible rfl
      rotate_left
      · simp only [Act.put, List.setIfInBounds_toArray, List.set_cons_zero, List.set_cons_succ]
        rfl
      refine pure_ (i := 3) (N := some 84) (v := ?_) (a' := ?_) #[true, true, true, true, false, false, false, false] rfl rfl (any_of HT_.out (by kernel_rfl)) (fun _ _ _ h => h) (Or.inl ⟨by rfl, ?_⟩) ?_ ?_
      rotate_left
      · intro w'
        go_simp
        with_reducible rfl
      rotate_left
      · simp only [Act.put, List.setIfInBounds_toArray, List.set_cons_zero, List.set_cons_succ]
        rfl
      refine take_ (i := 4) (N := some 85) (v := ?_) (a' := ?_) #[true, true, true, true, true, false, false, false] rfl rfl (take_of HT_.out (by kernel_rfl)) (fun _ _ _ h => h) (Or.inl ⟨by rfl, ?_⟩) hHeld ?_ ?_
      rotate_left
      · intro w' hw'
        obtain ⟨s0, s1⟩ := hw'
        go_simp
        with_reducible rfl
      rotate_left
      · simp only [Act.put, List.setIfInBounds_toArray, List.set_cons_zero, List.set_cons_succ]
        rfl
      refine one_ (i := 5) (N := none) #[true, true, true, true, true, true, false, false] rfl rfl (one_of HT_.out (by kernel_rfl)) (by decide) (fun Kq_ hK_ => ?_)
      refine skip_ (w1 := ?_) (by rfl) rfl ?_ ?_
      rotate_left
      · go_simp
        first | done | rfl
      refine hK_.out _ _ ⟨put_blk (W := y9) (g := w.heap.size) (x := x9) (A := none) (c := 0) (Nat.ne_of_gt (Nat.lt_trans hord.1 hord.2.1)) HD.out.cell, put_keeps (W := y9) (g := w.heap.size) (x := x9) (A := none) (c := 0) (Nat.ne_of_gt hord.1) r0⟩ (fun hHeld => ?_)
      clear hK_ Kq_
      refine pure_ (i := 6) (N := some 3) (v := ?_) (a' := ?_) #[true, true, true, true, true, true, true, false] rfl rfl (any_of HT_.out (by kernel_rfl)) (fun _ _ _ h => h) (Or.inl ⟨by rfl, ?_⟩) ?_ ?_
      rotate_left
      · intro w'
        go_simp
        with_reducible rfl
      rotate_left
      · simp only [Act.put, List.setIfInBounds_toArray, List.set_cons_zero, List.set_cons_succ]
        rfl
      refine pure_ (i := 7) (N := some 4) (v := ?_) (a' := ?_) #[true, true, true, true, true, true, true, true] rfl rfl (any_of HT_.out (by kernel_rfl)) (fun _ _ _ h => h) (Or.inl ⟨by rfl, ?_⟩) ?_ ?_
      rotate_left
      · intro w'
        go_simp
        with_reducible rfl
      rotate_left
      · simp only [Act.put, List.setIfInBounds_toArray, List.set_cons_zero, List.set_cons_succ]
        rfl
      refine done_ (done_of HT_.out (by kernel_rfl)) ?_
      clear HT_ hHeld
      go_wp2
      obtain ⟨W9, hW9⟩ : ∃ W9, W9 = (putCell y9 w.heap.size x9 none 0).drew := ⟨_, rfl⟩
      rw [← hW9]
      have hr9 : W9.heap[w.heap.size]? = some (.cells (celA x9 none 0) 30 (0, 0)) := by rw [hW9]; exact put_at_ HD.out.res
      have hb9 : Below w.heap.size w W9 := by rw [hW9]; exact put_below_ HD.out.bel (Nat.le_refl _)
      have ho9 : OwB W9 w.heap.size (.slice none x9.body.length 0) x9.body := by rw [hW9]; exact own_put HD.out.own HD.out.res (by decide) (fun k hk => put_far_ hk)
      clear hW9 t0 t1 t2 t3 t4 t5 t6 t7 t8 t9 t10
      have t0 : W9.cell? ⟨w.heap.size, 0, none⟩ = some (.int .i64 x9.kind) := blk_cell hr9 0
      have t1 : W9.cell? ⟨w.heap.size, 1, none⟩ = some (.int .u64 x9.num) := blk_cell hr9 1
      have t2 : W9.cell? ⟨w.heap.size, 2, none⟩ = some (.int .i64 x9.min) := blk_cell hr9 2
      have t3 : W9.cell? ⟨w.heap.size, 3, none⟩ = some (.int .i64 x9.br) := blk_cell hr9 3
      have t4 : W9.cell? ⟨w.heap.size, 4, none⟩ = some (.int .i64 x9.vol) := blk_cell hr9 4
      have t5 : W9.cell? ⟨w.heap.size, 5, none⟩ = some (.int .i64 x9.blk) := blk_cell hr9 5
      have t6 : W9.cell? ⟨w.heap.size, 6, none⟩ = some (.int .u64 x9.ref) := blk_cell hr9 6
      have t7 : W9.cell? ⟨w.heap.size, 7, none⟩ = some (.int .i64 x9.fr) := blk_cell hr9 7
      have t8 : W9.cell? ⟨w.heap.size, 8, none⟩ = some (.int .i64 x9.to) := blk_cell hr9 8
      have t9 : W9.cell? ⟨w.heap.size, 9, none⟩ = some (.int .i64 x9.un) := blk_cell hr9 9
      have t10 : W9.cell? ⟨w.heap.size, 10, none⟩ = some (.slice none x9.body.length 0) := blk_cell hr9 10
      refine bodyPost_ret (v := .tuple #[.agg (celA x9 none 0), .slice A0 lr k0, .int .i64 0]) (by simp [results, Try.results27, go_sem, t0, t1, t2, t3, t4, t5, t6, t7, t8, t9, t10]) rfl ?_
      rw [HE.out]
      have hdl : (b.drop (21)).length = lr := by rw [List.length_drop, HLR.out]
      refine ⟨⟨none, 0, A0, k0, by rw [hdl], ho9, ?_, by rw [hdl, HLR.out]; exact HR0.out.1⟩, hb9⟩
      show Kd.C _ _ _ (b.drop (21)).length _
      rw [List.length_drop]
      exact HR0.out.2
set_option maxHeartbeats 6400000 in
set_option maxRecDepth 100000 in
theorem decode_r (A : Option Addr) (c : Nat) (b : List Int) (v w : World) (hv : Below v.heap.size v w) (hr : RdB v A b) (hc : b.length ≤ c) (hy : Byt b) (hl : b.length ≤ 1000) (h0 : b.length ≠ 0) (hV : Aside0 (partsV (gv b 0 1) = .agg #[.bool false, .bool true, .bool false, .bool false])) (hK : Aside0 (hasKind (gv b 0 1) = true)) (nb : Nat) (hnb : Aside0 (nb = 0))
    (x9 : Cel) (hx9 : Aside0 (x9 = ⟨gv b 0 1, gv b 1 2, gv b 3 4, 0, 0, 0, gv b 7 2, 0, 0, 0, []⟩)) (hwf : Aside0 (CelWf x9)) (res : Cel × List Int × Int)
    (hres : Aside0 (res = if b.length < 9 then (cel0, [], 14) else if rightB x9 then (x9, b.drop (9), 0) else (cel0, [], 3))) :
    Calls Try.prog 27 #[.slice A b.length c] w fun e w' => (∃ A1 c1 A2 c2, e = .returned (.tuple #[.agg (celA res.1 A1 c1), .slice A2 res.2.1.length c2, .int .i64 res.2.2]) ∧ OwB w' w.heap.size (.slice A1 res.1.body.length c1) res.1.body ∧ RdB v A2 res.2.1 ∧ res.2.1.length ≤ c2) ∧ Below w.heap.size w w' := by
  have hmx := C_max hr
  have HR := Aside0.mk hr
  have HVW := Aside0.mk hv
  have HY := Aside0.mk hy
  have HC := Aside0.mk hc
  have e1 : IntKind.u64.wrap (gv b 1 2) = gv b 1 2 := wrap_u64_in _ (gv_range hy 1 2).1 (by have := (gv_range hy 1 2).2; omega)
  have e7 : IntKind.u64.wrap (gv b 7 2) = gv b 7 2 := wrap_u64_in _ (gv_range hy 7 2).1 (by have := (gv_range hy 7 2).2; omega)
  clear hr hy hc hv
  go_enter Try.func27, Try.ntmps27
  go_upto_region 8 with (first | (go_at_call 39; go_must (refine (num_any (w.heap.size + 1) b 0 1 1 rfl v _ (dec_start HVW.out HR.out HC.out) HY.out (by decide) (by decide)).mono ?_; rintro e w1 ⟨rfl, h2, hk⟩; have HRD := Aside0.mk h2; have HK1 := Aside0.mk hk; clear h2 hk)) | (go_at_call 36; go_must (refine (has_any (gv b 0 1) _).mono ?_; rintro e w2 ⟨rfl, hb⟩; rw [hV.out, hK.out]; have HB2 := Aside0.mk hb; clear hb)))
  obtain ⟨W3, hW3⟩ : ∃ W3, W3 = w2.alloc (.cells #[.bool false, .bool true, .bool false, .bool false] 84) := ⟨_, rfl⟩
  rw [← hW3]
  have HD := Aside0.mk (show DS v w W3 (w.heap.size + 1) w1.heap.size w2.heap.size b 1 ⟨gv b 0 1, 0, 0, 0, 0, 0, 0, 0, 0, 0, []⟩ none 0 #[.bool false, .bool true, .bool false, .bool false] by rw [hW3]; exact dec_first HVW.out HRD.out HK1.out HB2.out)
  obtain ⟨p, hp⟩ : ∃ p, p = w.heap.size + 1 := ⟨_, rfl⟩
  obtain ⟨g6, hg6⟩ : ∃ g, g = w1.heap.size := ⟨_, rfl⟩
  obtain ⟨g7, hg7⟩ : ∃ g, g = w2.heap.size := ⟨_, rfl⟩
  rw [← hp, ← hg6, ← hg7] at HD ⊢
  have hord := HD.out.ord
  clear hW3 HRD HK1 HB2 hp hg6 hg7
  have hx6 := HD.out.cell
  obtain ⟨c0, c1, c2, c3, c4, c5, c6, c7, c8, c9⟩ := cel_at (x := ⟨gv b 0 1, 0, 0, 0, 0, 0, 0, 0, 0, 0, []⟩) (A := none) (c := 0) hx6
  have c10 : W3.cell? ⟨g6, 10, none⟩ = some (.slice none 0 0) := blk_cell hx6 10
  (try simp only at c0 c1 c2 c3 c4 c5 c6 c7 c8 c9)
  have z1 := blk_frozen hx6 1
  have z2 := blk_frozen hx6 2
  have hx7 := HD.out.pts
  have q0 : W3.cell? ⟨g7, 0, none⟩ = some (.bool false) := blk_cell hx7 0
  have q1 : W3.cell? ⟨g7, 1, none⟩ = some (.bool true) := blk_cell hx7 1
  have q2 : W3.cell? ⟨g7, 2, none⟩ = some (.bool false) := blk_cell hx7 2
  have q3 : W3.cell? ⟨g7, 3, none⟩ = some (.bool false) := blk_cell hx7 3
  clear hx6 hx7
  go_upto_region 12 with (first
    | (go_at_call 39; (with_reducible refine (num_any p b 1 2 2 rfl v W3 HD.out.rd HY.out (by decide) (by decide)).mono ?_); go_must (rintro e y1 ⟨rfl, h2, hk⟩; replace HD := Aside0.mk (HD.out.num h2 hk); clear c0 c1 c2 c3 c4 c5 c6 c7 c8 c9 c10 q0 q1 q2 q3 z1 z2; have hx6 := HD.out.cell; obtain ⟨c0, c1, c2, c3, c4, c5, c6, c7, c8, c9⟩ := cel_at (x := ⟨gv b 0 1, 0, 0, 0, 0, 0, 0, 0, 0, 0, []⟩) (A := none) (c := 0) hx6; have c10 : y1.cell? ⟨g6, 10, none⟩ = some (.slice none 0 0) := blk_cell hx6 10; (try simp only at c0 c1 c2 c3 c4 c5 c6 c7 c8 c9); have z1 := blk_frozen hx6 1; have z2 := blk_frozen hx6 2; have hx7 := HD.out.pts; have q0 : y1.cell? ⟨g7, 0, none⟩ = some (.bool false) := blk_cell hx7 0; have q1 : y1.cell? ⟨g7, 1, none⟩ = some (.bool true) := blk_cell hx7 1; have q2 : y1.cell? ⟨g7, 2, none⟩ = some (.bool false) := blk_cell hx7 2; have q3 : y1.cell? ⟨g7, 3, none⟩ = some (.bool false) := blk_cell hx7 3; clear hx6 hx7; clear h2 hk))
    | (go_at_call 39; (with_reducible refine (num_any p b 3 4 4 rfl v y1 HD.out.rd HY.out (by decide) (by decide)).mono ?_); go_must (rintro e y2 ⟨rfl, h2, hk⟩; replace HD := Aside0.mk (HD.out.num h2 hk); clear c0 c1 c2 c3 c4 c5 c6 c7 c8 c9 c10 q0 q1 q2 q3 z1 z2; have hx6 := HD.out.cell; obtain ⟨c0, c1, c2, c3, c4, c5, c6, c7, c8, c9⟩ := cel_at (x := ⟨gv b 0 1, 0, 0, 0, 0, 0, 0, 0, 0, 0, []⟩) (A := none) (c := 0) hx6; have c10 : y2.cell? ⟨g6, 10, none⟩ = some (.slice none 0 0) := blk_cell hx6 10; (try simp only at c0 c1 c2 c3 c4 c5 c6 c7 c8 c9); have z1 := blk_frozen hx6 1; have z2 := blk_frozen hx6 2; have hx7 := HD.out.pts; have q0 : y2.cell? ⟨g7, 0, none⟩ = some (.bool false) := blk_cell hx7 0; have q1 : y2.cell? ⟨g7, 1, none⟩ = some (.bool true) := blk_cell hx7 1; have q2 : y2.cell? ⟨g7, 2, none⟩ = some (.bool false) := blk_cell hx7 2; have q3 : y2.cell? ⟨g7, 3, none⟩ = some (.bool false) := blk_cell hx7 3; clear hx6 hx7; clear h2 hk)))
  obtain ⟨V8, hV8⟩ : ∃ W, W = ((y2.setCell ⟨g6, 1, none⟩ (.int .u64 (gv b 1 2))).setCell ⟨g6, 2, none⟩ (.int .i64 (gv b 3 4))) := ⟨_, rfl⟩
  rw [← hV8]
  replace HD := Aside0.mk (show DS v w V8 p g6 g7 b (7) ⟨gv b 0 1, gv b 1 2, gv b 3 4, 0, 0, 0, 0, 0, 0, 0, []⟩ none 0 #[.bool false, .bool true, .bool false, .bool false] by rw [hV8]; exact ((HD.out.set_ 1 (.int .u64 (gv b 1 2)) (x' := ⟨gv b 0 1, gv b 1 2, 0, 0, 0, 0, 0, 0, 0, 0, []⟩) rfl rfl).set_ 2 (.int .i64 (gv b 3 4)) (x' := ⟨gv b 0 1, gv b 1 2, gv b 3 4, 0, 0, 0, 0, 0, 0, 0, []⟩) rfl rfl))
  clear hV8; clear c0 c1 c2 c3 c4 c5 c6 c7 c8 c9 c10 q0 q1 q2 q3 z1 z2
  have hx6 := HD.out.cell
  obtain ⟨c0, c1, c2, c3, c4, c5, c6, c7, c8, c9⟩ := cel_at (x := ⟨gv b 0 1, gv b 1 2, gv b 3 4, 0, 0, 0, 0, 0, 0, 0, []⟩) (A := none) (c := 0) hx6
  have c10 : V8.cell? ⟨g6, 10, none⟩ = some (.slice none 0 0) := blk_cell hx6 10
  (try simp only at c0 c1 c2 c3 c4 c5 c6 c7 c8 c9)
  have z6 := blk_frozen hx6 6
  have hx7 := HD.out.pts
  have q0 : V8.cell? ⟨g7, 0, none⟩ = some (.bool false) := blk_cell hx7 0
  have q1 : V8.cell? ⟨g7, 1, none⟩ = some (.bool true) := blk_cell hx7 1
  have q2 : V8.cell? ⟨g7, 2, none⟩ = some (.bool false) := blk_cell hx7 2
  have q3 : V8.cell? ⟨g7, 3, none⟩ = some (.bool false) := blk_cell hx7 3
  clear hx6 hx7
  go_upto_region 17 with (first
    | (go_at_call 39; (with_reducible refine (num_any p b 7 2 2 rfl v V8 HD.out.rd HY.out (by decide) (by decide)).mono ?_); go_must (rintro e y1 ⟨rfl, h2, hk⟩; replace HD := Aside0.mk (HD.out.num h2 hk); clear c0 c1 c2 c3 c4 c5 c6 c7 c8 c9 c10 q0 q1 q2 q3 z6; have hx6 := HD.out.cell; obtain ⟨c0, c1, c2, c3, c4, c5, c6, c7, c8, c9⟩ := cel_at (x := ⟨gv b 0 1, gv b 1 2, gv b 3 4, 0, 0, 0, 0, 0, 0, 0, []⟩) (A := none) (c := 0) hx6; have c10 : y1.cell? ⟨g6, 10, none⟩ = some (.slice none 0 0) := blk_cell hx6 10; (try simp only at c0 c1 c2 c3 c4 c5 c6 c7 c8 c9); have z6 := blk_frozen hx6 6; have hx7 := HD.out.pts; have q0 : y1.cell? ⟨g7, 0, none⟩ = some (.bool false) := blk_cell hx7 0; have q1 : y1.cell? ⟨g7, 1, none⟩ = some (.bool true) := blk_cell hx7 1; have q2 : y1.cell? ⟨g7, 2, none⟩ = some (.bool false) := blk_cell hx7 2; have q3 : y1.cell? ⟨g7, 3, none⟩ = some (.bool false) := blk_cell hx7 3; clear hx6 hx7; clear h2 hk)))
  obtain ⟨V12, hV12⟩ : ∃ W, W = (y1.setCell ⟨g6, 6, none⟩ (.int .u64 (gv b 7 2))) := ⟨_, rfl⟩
  rw [← hV12]
  replace HD := Aside0.mk (show DS v w V12 p g6 g7 b (9) ⟨gv b 0 1, gv b 1 2, gv b 3 4, 0, 0, 0, gv b 7 2, 0, 0, 0, []⟩ none 0 #[.bool false, .bool true, .bool false, .bool false] by rw [hV12]; exact (HD.out.set_ 6 (.int .u64 (gv b 7 2)) (x' := ⟨gv b 0 1, gv b 1 2, gv b 3 4, 0, 0, 0, gv b 7 2, 0, 0, 0, []⟩) rfl rfl))
  clear hV12; clear c0 c1 c2 c3 c4 c5 c6 c7 c8 c9 c10 q0 q1 q2 q3 z6
  replace HD := Aside0.mk (show DS v w V12 p g6 g7 b (9) x9 none 0 #[.bool false, .bool true, .bool false, .bool false] by rw [hx9.out]; exact HD.out)
  obtain ⟨hrd1, hrd2, A0, k0, hk0, hr0, hp0⟩ := HD.out.rd
  have r0 : V12.cell? ⟨p, 0, none⟩ = some (.slice A0 (b.length - (9)) k0) := blk_cell hp0 0
  have r1 : V12.cell? ⟨p, 1, none⟩ = some (.bool (decide (b.length < 9))) := blk_cell hp0 1
  have HR0 := Aside0.mk (And.intro hk0 hr0)
  clear hrd1 hrd2 hk0 hr0 hp0
  obtain ⟨lr, hlr⟩ : ∃ lr, lr = b.length - (9) := ⟨_, rfl⟩
  rw [← hlr] at r0
  have HLR := Aside0.mk hlr
  clear hlr
  have hx6 := HD.out.cell
  obtain ⟨c0, c1, c2, c3, c4, c5, c6, c7, c8, c9⟩ := cel_at (x := x9) (A := none) (c := 0) hx6
  have c10 : V12.cell? ⟨g6, 10, none⟩ = some (.slice none x9.body.length 0) := blk_cell hx6 10
  (try simp only at c0 c1 c2 c3 c4 c5 c6 c7 c8 c9)
  have hx7 := HD.out.pts
  have q0 : V12.cell? ⟨g7, 0, none⟩ = some (.bool false) := blk_cell hx7 0
  have q1 : V12.cell? ⟨g7, 1, none⟩ = some (.bool true) := blk_cell hx7 1
  have q2 : V12.cell? ⟨g7, 2, none⟩ = some (.bool false) := blk_cell hx7 2
  have q3 : V12.cell? ⟨g7, 3, none⟩ = some (.bool false) := blk_cell hx7 3
  clear hx6 hx7
  have hxr := HD.out.res
  have t0 : V12.cell? ⟨w.heap.size, 0, none⟩ = some (.int .i64 0) := blk_cell hxr 0
  have t1 : V12.cell? ⟨w.heap.size, 1, none⟩ = some (.int .u64 0) := blk_cell hxr 1
  have t2 : V12.cell? ⟨w.heap.size, 2, none⟩ = some (.int .i64 0) := blk_cell hxr 2
  have t3 : V12.cell? ⟨w.heap.size, 3, none⟩ = some (.int .i64 0) := blk_cell hxr 3
  have t4 : V12.cell? ⟨w.heap.size, 4, none⟩ = some (.int .i64 0) := blk_cell hxr 4
  have t5 : V12.cell? ⟨w.heap.size, 5, none⟩ = some (.int .i64 0) := blk_cell hxr 5
  have t6 : V12.cell? ⟨w.heap.size, 6, none⟩ = some (.int .u64 0) := blk_cell hxr 6
  have t7 : V12.cell? ⟨w.heap.size, 7, none⟩ = some (.int .i64 0) := blk_cell hxr 7
  have t8 : V12.cell? ⟨w.heap.size, 8, none⟩ = some (.int .i64 0) := blk_cell hxr 8
  have t9 : V12.cell? ⟨w.heap.size, 9, none⟩ = some (.int .i64 0) := blk_cell hxr 9
  have t10 : V12.cell? ⟨w.heap.size, 10, none⟩ = some (.slice none 0 0) := blk_cell hxr 10
  have zt0 := blk_frozen hxr 0
  have zt1 := blk_frozen hxr 1
  have zt2 := blk_frozen hxr 2
  have zt3 := blk_frozen hxr 3
  have zt4 := blk_frozen hxr 4
  have zt5 := blk_frozen hxr 5
  have zt6 := blk_frozen hxr 6
  have zt7 := blk_frozen hxr 7
  have zt8 := blk_frozen hxr 8
  have zt9 := blk_frozen hxr 9
  have zt10 := blk_frozen hxr 10
  clear hxr
  cases hs : decide (b.length < 9) with
  | true =>
    rw [hs] at r1
    have HE := Aside0.mk (show res = (cel0, [], 14) by rw [hres.out, if_pos (of_decide_eq_true hs)])
    clear hs
    go_wp2
    obtain ⟨W9, hW9⟩ : ∃ W9, W9 = (((((((((((V12.setCell ⟨w.heap.size, 0, none⟩ (.int .i64 0)).setCell ⟨w.heap.size, 1, none⟩ (.int .u64 0)).setCell ⟨w.heap.size, 2, none⟩ (.int .i64 0)).setCell ⟨w.heap.size, 3, none⟩ (.int .i64 0)).setCell ⟨w.heap.size, 4, none⟩ (.int .i64 0)).setCell ⟨w.heap.size, 5, none⟩ (.int .i64 0)).setCell ⟨w.heap.size, 6, none⟩ (.int .u64 0)).setCell ⟨w.heap.size, 7, none⟩ (.int .i64 0)).setCell ⟨w.heap.size, 8, none⟩ (.int .i64 0)).setCell ⟨w.heap.size, 9, none⟩ (.int .i64 0)).setCell ⟨w.heap.size, 10, none⟩ (.slice none 0 0)) := ⟨_, rfl⟩
    rw [← hW9]
    have hr9 : W9.heap[w.heap.size]? = some (.cells (celA cel0 none 0) 30 (0, 0)) := by rw [hW9]; exact putCell_at (x := cel0) (A := none) (c := 0) HD.out.res
    have hb9 : Below w.heap.size w W9 := by rw [hW9]; exact putCell_below (x := cel0) (A := none) (c := 0) HD.out.bel (Nat.le_refl _)
    clear hW9 t0 t1 t2 t3 t4 t5 t6 t7 t8 t9 t10
    have t0 : W9.cell? ⟨w.heap.size, 0, none⟩ = some (.int .i64 0) := blk_cell hr9 0
    have t1 : W9.cell? ⟨w.heap.size, 1, none⟩ = some (.int .u64 0) := blk_cell hr9 1
    have t2 : W9.cell? ⟨w.heap.size, 2, none⟩ = some (.int .i64 0) := blk_cell hr9 2
    have t3 : W9.cell? ⟨w.heap.size, 3, none⟩ = some (.int .i64 0) := blk_cell hr9 3
    have t4 : W9.cell? ⟨w.heap.size, 4, none⟩ = some (.int .i64 0) := blk_cell hr9 4
    have t5 : W9.cell? ⟨w.heap.size, 5, none⟩ = some (.int .i64 0) := blk_cell hr9 5
    have t6 : W9.cell? ⟨w.heap.size, 6, none⟩ = some (.int .u64 0) := blk_cell hr9 6
    have t7 : W9.cell? ⟨w.heap.size, 7, none⟩ = some (.int .i64 0) := blk_cell hr9 7
    have t8 : W9.cell? ⟨w.heap.size, 8, none⟩ = some (.int .i64 0) := blk_cell hr9 8
    have t9 : W9.cell? ⟨w.heap.size, 9, none⟩ = some (.int .i64 0) := blk_cell hr9 9
    have t10 : W9.cell? ⟨w.heap.size, 10, none⟩ = some (.slice none 0 0) := blk_cell hr9 10
    refine bodyPost_ret (v := .tuple #[.agg (celA cel0 none 0), .slice none 0 0, .int .i64 14]) (by simp [results, Try.results27, go_sem, cel0, t0, t1, t2, t3, t4, t5, t6, t7, t8, t9, t10]) rfl ?_
    rw [HE.out]
    exact ⟨⟨none, 0, none, 0, rfl, Kd.R_nil _ _ _ _ _, RdB_nil _, Nat.le_refl _⟩, hb9⟩
  | false =>
    rw [hs] at r1
    have HS := Aside0.mk (of_decide_eq_false hs)
    clear hs
    cases hq : rightB x9 with
    | false =>
      have HE := Aside0.mk (show res = (cel0, [], 3) by rw [hres.out, if_neg HS.out, if_neg (by rw [hq]; simp)])
      go_wp2_with (go_at_call 34; go_must (refine (right_any x9 none 0 _ (Ow_rd HD.out.own).2.2 hwf.out.2.2).mono ?_; rintro e y9 ⟨rfl, hb⟩; rw [hq]; replace HD := Aside0.mk (HD.out.below hb); replace r0 := pw_cell_below hb r0; replace r1 := pw_cell_below hb r1; clear c0 c1 c2 c3 c4 c5 c6 c7 c8 c9 c10 q0 q1 q2 q3 t0 zt0 t1 zt1 t2 zt2 t3 zt3 t4 zt4 t5 zt5 t6 zt6 t7 zt7 t8 zt8 t9 zt9 t10 zt10; have hx6 := HD.out.cell; obtain ⟨c0, c1, c2, c3, c4, c5, c6, c7, c8, c9⟩ := cel_at (x := x9) (A := none) (c := 0) hx6; have c10 : y9.cell? ⟨g6, 10, none⟩ = some (.slice none x9.body.length 0) := blk_cell hx6 10; (try simp only at c0 c1 c2 c3 c4 c5 c6 c7 c8 c9); have hx7 := HD.out.pts; have q0 : y9.cell? ⟨g7, 0, none⟩ = some (.bool false) := blk_cell hx7 0; have q1 : y9.cell? ⟨g7, 1, none⟩ = some (.bool true) := blk_cell hx7 1; have q2 : y9.cell? ⟨g7, 2, none⟩ = some (.bool false) := blk_cell hx7 2; have q3 : y9.cell? ⟨g7, 3, none⟩ = some (.bool false) := blk_cell hx7 3; clear hx6 hx7; have hxr := HD.out.res; have t0 : y9.cell? ⟨w.heap.size, 0, none⟩ = some (.int .i64 0) := blk_cell hxr 0; have t1 : y9.cell? ⟨w.heap.size, 1, none⟩ = some (.int .u64 0) := blk_cell hxr 1; have t2 : y9.cell? ⟨w.heap.size, 2, none⟩ = some (.int .i64 0) := blk_cell hxr 2; have t3 : y9.cell? ⟨w.heap.size, 3, none⟩ = some (.int .i64 0) := blk_cell hxr 3; have t4 : y9.cell? ⟨w.heap.size, 4, none⟩ = some (.int .i64 0) := blk_cell hxr 4; have t5 : y9.cell? ⟨w.heap.size, 5, none⟩ = some (.int .i64 0) := blk_cell hxr 5; have t6 : y9.cell? ⟨w.heap.size, 6, none⟩ = some (.int .u64 0) := blk_cell hxr 6; have t7 : y9.cell? ⟨w.heap.size, 7, none⟩ = some (.int .i64 0) := blk_cell hxr 7; have t8 : y9.cell? ⟨w.heap.size, 8, none⟩ = some (.int .i64 0) := blk_cell hxr 8; have t9 : y9.cell? ⟨w.heap.size, 9, none⟩ = some (.int .i64 0) := blk_cell hxr 9; have t10 : y9.cell? ⟨w.heap.size, 10, none⟩ = some (.slice none 0 0) := blk_cell hxr 10; have zt0 := blk_frozen hxr 0; have zt1 := blk_frozen hxr 1; have zt2 := blk_frozen hxr 2; have zt3 := blk_frozen hxr 3; have zt4 := blk_frozen hxr 4; have zt5 := blk_frozen hxr 5; have zt6 := blk_frozen hxr 6; have zt7 := blk_frozen hxr 7; have zt8 := blk_frozen hxr 8; have zt9 := blk_frozen hxr 9; have zt10 := blk_frozen hxr 10; clear hxr; clear hb))
      obtain ⟨W9, hW9⟩ : ∃ W9, W9 = (((((((((((y9.setCell ⟨w.heap.size, 0, none⟩ (.int .i64 0)).setCell ⟨w.heap.size, 1, none⟩ (.int .u64 0)).setCell ⟨w.heap.size, 2, none⟩ (.int .i64 0)).setCell ⟨w.heap.size, 3, none⟩ (.int .i64 0)).setCell ⟨w.heap.size, 4, none⟩ (.int .i64 0)).setCell ⟨w.heap.size, 5, none⟩ (.int .i64 0)).setCell ⟨w.heap.size, 6, none⟩ (.int .u64 0)).setCell ⟨w.heap.size, 7, none⟩ (.int .i64 0)).setCell ⟨w.heap.size, 8, none⟩ (.int .i64 0)).setCell ⟨w.heap.size, 9, none⟩ (.int .i64 0)).setCell ⟨w.heap.size, 10, none⟩ (.slice none 0 0)) := ⟨_, rfl⟩
      rw [← hW9]
      have hr9 : W9.heap[w.heap.size]? = some (.cells (celA cel0 none 0) 30 (0, 0)) := by rw [hW9]; exact putCell_at (x := cel0) (A := none) (c := 0) HD.out.res
      have hb9 : Below w.heap.size w W9 := by rw [hW9]; exact putCell_below (x := cel0) (A := none) (c := 0) HD.out.bel (Nat.le_refl _)
      clear hW9 t0 t1 t2 t3 t4 t5 t6 t7 t8 t9 t10
      have t0 : W9.cell? ⟨w.heap.size, 0, none⟩ = some (.int .i64 0) := blk_cell hr9 0
      have t1 : W9.cell? ⟨w.heap.size, 1, none⟩ = some (.int .u64 0) := blk_cell hr9 1
      have t2 : W9.cell? ⟨w.heap.size, 2, none⟩ = some (.int .i64 0) := blk_cell hr9 2
      have t3 : W9.cell? ⟨w.heap.size, 3, none⟩ = some (.int .i64 0) := blk_cell hr9 3
      have t4 : W9.cell? ⟨w.heap.size, 4, none⟩ = some (.int .i64 0) := blk_cell hr9 4
      have t5 : W9.cell? ⟨w.heap.size, 5, none⟩ = some (.int .i64 0) := blk_cell hr9 5
      have t6 : W9.cell? ⟨w.heap.size, 6, none⟩ = some (.int .u64 0) := blk_cell hr9 6
      have t7 : W9.cell? ⟨w.heap.size, 7, none⟩ = some (.int .i64 0) := blk_cell hr9 7
      have t8 : W9.cell? ⟨w.heap.size, 8, none⟩ = some (.int .i64 0) := blk_cell hr9 8
      have t9 : W9.cell? ⟨w.heap.size, 9, none⟩ = some (.int .i64 0) := blk_cell hr9 9
      have t10 : W9.cell? ⟨w.heap.size, 10, none⟩ = some (.slice none 0 0) := blk_cell hr9 10
      refine bodyPost_ret (v := .tuple #[.agg (celA cel0 none 0), .slice none 0 0, .int .i64 3]) (by simp [results, Try.results27, go_sem, cel0, t0, t1, t2, t3, t4, t5, t6, t7, t8, t9, t10]) rfl ?_
      rw [HE.out]
      exact ⟨⟨none, 0, none, 0, rfl, Kd.R_nil _ _ _ _ _, RdB_nil _, Nat.le_refl _⟩, hb9⟩
    | true =>
      have HE := Aside0.mk (show res = (x9, b.drop (9), 0) by rw [hres.out, if_neg HS.out, if_pos hq])
      go_wp2_with (go_at_call 34; go_must (refine (right_any x9 none 0 _ (Ow_rd HD.out.own).2.2 hwf.out.2.2).mono ?_; rintro e y9 ⟨rfl, hb⟩; rw [hq]; replace HD := Aside0.mk (HD.out.below hb); replace r0 := pw_cell_below hb r0; replace r1 := pw_cell_below hb r1; clear c0 c1 c2 c3 c4 c5 c6 c7 c8 c9 c10 q0 q1 q2 q3 t0 zt0 t1 zt1 t2 zt2 t3 zt3 t4 zt4 t5 zt5 t6 zt6 t7 zt7 t8 zt8 t9 zt9 t10 zt10; have hx6 := HD.out.cell; obtain ⟨c0, c1, c2, c3, c4, c5, c6, c7, c8, c9⟩ := cel_at (x := x9) (A := none) (c := 0) hx6; have c10 : y9.cell? ⟨g6, 10, none⟩ = some (.slice none x9.body.length 0) := blk_cell hx6 10; (try simp only at c0 c1 c2 c3 c4 c5 c6 c7 c8 c9); have hx7 := HD.out.pts; have q0 : y9.cell? ⟨g7, 0, none⟩ = some (.bool false) := blk_cell hx7 0; have q1 : y9.cell? ⟨g7, 1, none⟩ = some (.bool true) := blk_cell hx7 1; have q2 : y9.cell? ⟨g7, 2, none⟩ = some (.bool false) := blk_cell hx7 2; have q3 : y9.cell? ⟨g7, 3, none⟩ = some (.bool false) := blk_cell hx7 3; clear hx6 hx7; have hxr := HD.out.res; have t0 : y9.cell? ⟨w.heap.size, 0, none⟩ = some (.int .i64 0) := blk_cell hxr 0; have t1 : y9.cell? ⟨w.heap.size, 1, none⟩ = some (.int .u64 0) := blk_cell hxr 1; have t2 : y9.cell? ⟨w.heap.size, 2, none⟩ = some (.int .i64 0) := blk_cell hxr 2; have t3 : y9.cell? ⟨w.heap.size, 3, none⟩ = some (.int .i64 0) := blk_cell hxr 3; have t4 : y9.cell? ⟨w.heap.size, 4, none⟩ = some (.int .i64 0) := blk_cell hxr 4; have t5 : y9.cell? ⟨w.heap.size, 5, none⟩ = some (.int .i64 0) := blk_cell hxr 5; have t6 : y9.cell? ⟨w.heap.size, 6, none⟩ = some (.int .u64 0) := blk_cell hxr 6; have t7 : y9.cell? ⟨w.heap.size, 7, none⟩ = some (.int .i64 0) := blk_cell hxr 7; have t8 : y9.cell? ⟨w.heap.size, 8, none⟩ = some (.int .i64 0) := blk_cell hxr 8; have t9 : y9.cell? ⟨w.heap.size, 9, none⟩ = some (.int .i64 0) := blk_cell hxr 9; have t10 : y9.cell? ⟨w.heap.size, 10, none⟩ = some (.slice none 0 0) := blk_cell hxr 10; have zt0 := blk_frozen hxr 0; have zt1 := blk_frozen hxr 1; have zt2 := blk_frozen hxr 2; have zt3 := blk_frozen hxr 3; have zt4 := blk_frozen hxr 4; have zt5 := blk_frozen hxr 5; have zt6 := blk_frozen hxr 6; have zt7 := blk_frozen hxr 7; have zt8 := blk_frozen hxr 8; have zt9 := blk_frozen hxr 9; have zt10 := blk_frozen hxr 10; clear hxr; clear hb))
      go_wp2_with (fail)
      refine start_ (n := 8) (S := fun w' => w'.heap[g6]? = some (.cells (celA x9 none 0) 30 (0, 0)) ∧ w'.cell? ⟨p, 0, none⟩ = some (.slice A0 lr k0)) (ds := []) #[false, false, false, false, false, false, false, false] (by kernel_rfl) rfl rfl ⟨(HD.out.below (below_drew (Below.refl _ _))).cell, pw_cell_below (below_drew (Below.refl _ _)) r0⟩ (fun hHeld => ?_); refine with_tab tabD21_ok (fun HT_ => ?_)
      have hb : Below y9.heap.size y9 y9.drew := below_drew (Below.refl _ _)
      skip
      clear hb
      refine take_ (i := 0) (N := some 81) (v := ?_) (a' := ?_) #[true, false, false, false, false, false, false, false] rfl rfl (take_of HT_.out (by kernel_rfl)) (fun _ _ _ h => h) (Or.inl ⟨by rfl, ?_⟩) hHeld ?_ ?_
      rotate_left
      · intro w' hw'
        obtain ⟨s0, s1⟩ := hw'; obtain ⟨c0, c1, c2, c3, c4, c5, c6, c7, c8, c9⟩ := cel_at (x := x9) (A := none) (c := 0) s0; have c10 : w'.cell? ⟨g6, 10, none⟩ = some (.slice none x9.body.length 0) := blk_cell s0 10
        go_simp
        with_reducible rfl
      rotate_left
      · simp only [Act.put, List.setIfInBounds_toArray, List.set_cons_zero, List.set_cons_succ]
        rfl
      refine pure_ (i := 1) (N := some 82) (v := ?_) (a' := ?_) #[true, true, false, false, false, false, false, false] rfl rfl (any_of HT_.out (by kernel_rfl)) (fun _ _ _ h => h) (Or.inl ⟨by rfl, ?_⟩) ?_ ?_
      rotate_left
      · intro w'
        go_simp
        with_reducible rfl
      rotate_left
      · simp only [Act.put, List.setIfInBounds_toArray, List.set_cons_zero, List.set_cons_succ]
        rfl
      refine pure_ (i := 2) (N := some 83) (v := ?_) (a' := ?_) #[true, true, true, false, false, false, false, false] rfl rfl (any_of HT_.out (by kernel_rfl)) (fun _ _ _ h => h) (Or.inl ⟨by rfl, ?_⟩) ?_ ?_
      rotate_left
      · intro w'
        go_simp
        with_reducible rfl
      rotate_left
      · simp only [Act.put, List.setIfInBounds_toArray, List.set_cons_zero, List.set_cons_succ]
        rfl
      refine pure_ (i := 3) (N := some 84) (v := ?_) (a' := ?_) #[true, true, true, true, false, false, false, false] rfl rfl (any_of HT_.out (by kernel_rfl)) (fun _ _ _ h => h) (Or.inl ⟨by rfl, ?_⟩) ?_ ?_
      rotate_left
      · intro w'
        go_simp
        with_reducible rfl
      rotate_left
      · simp only [Act.put, List.setIfInBounds_toArray, List.set_cons_zero, List.set_cons_succ]
        rfl
      refine take_ (i := 4) (N := some 85) (v := ?_) (a' := ?_) #[true, true, true, true, true, false, false, false] rfl rfl (take_of HT_.out (by kernel_rfl)) (fun _ _ _ h => h) (Or.inl ⟨by rfl, ?_⟩) hHeld ?_ ?_
      rotate_left
      · intro w' hw'
        obtain ⟨s0, s1⟩ := hw'
        go_simp
        with_reducible rfl
      rotate_left
      · simp only [Act.put, List.setIfInBounds_toArray, List.set_cons_zero, List.set_cons_succ]
        rfl
      refine one_ (i := 5) (N := none) #[true, true, true, true, true, true, false, false] rfl rfl (one_of HT_.out (by kernel_rfl)) (by decide) (fun Kq_ hK_ => ?_)
      refine skip_ (w1 := ?_) (by rfl) rfl ?_ ?_
      rotate_left
      · go_simp
        first | done | rfl
      refine hK_.out _ _ ⟨put_blk (W := y9) (g := w.heap.size) (x := x9) (A := none) (c := 0) (Nat.ne_of_gt (Nat.lt_trans hord.1 hord.2.1)) HD.out.cell, put_keeps (W := y9) (g := w.heap.size) (x := x9) (A := none) (c := 0) (Nat.ne_of_gt hord.1) r0⟩ (fun hHeld => ?_)
      clear hK_ Kq_
      refine pure_ (i := 6) (N := some 3) (v := ?_) (a' := ?_) #[true, true, true, true, true, true, true, false] rfl rfl (any_of HT_.out (by kernel_rfl)) (fun _ _ _ h => h) (Or.inl ⟨by rfl, ?_⟩) ?_ ?_
      rotate_left
      · intro w'
        go_simp
        with_reducible rfl
      rotate_left
      · simp only [Act.put, List.setIfInBounds_toArray, List.set_cons_zero, List.set_cons_succ]
        rfl
      refine pure_ (i := 7) (N := some 4) (v := ?_) (a' := ?_) #[true, true, true, true, true, true, true, true] rfl rfl (any_of HT_.out (by kernel_rfl)) (fun _ _ _ h => h) (Or.inl ⟨by rfl, ?_⟩) ?_ ?_
      rotate_left
      · intro w'
        go_simp
        with_reducible rfl
      rotate_left
      · simp only [Act.put, List.setIfInBounds_toArray, List.set_cons_zero, List.set_cons_succ]
        rfl
      refine done_ (done_of HT_.out (by kernel_rfl)) ?_
      clear HT_ hHeld
      go_wp2
      obtain ⟨W9, hW9⟩ : ∃ W9, W9 = (putCell y9 w.heap.size x9 none 0).drew := ⟨_, rfl⟩
      rw [← hW9]
      have hr9 : W9.heap[w.heap.size]? = some (.cells (celA x9 none 0) 30 (0, 0)) := by rw [hW9]; exact put_at_ HD.out.res
      have hb9 : Below w.heap.size w W9 := by rw [hW9]; exact put_below_ HD.out.bel (Nat.le_refl _)
      have ho9 : OwB W9 w.heap.size (.slice none x9.body.length 0) x9.body := by rw [hW9]; exact own_put HD.out.own HD.out.res (by decide) (fun k hk => put_far_ hk)
      clear hW9 t0 t1 t2 t3 t4 t5 t6 t7 t8 t9 t10
      have t0 : W9.cell? ⟨w.heap.size, 0, none⟩ = some (.int .i64 x9.kind) := blk_cell hr9 0
      have t1 : W9.cell? ⟨w.heap.size, 1, none⟩ = some (.int .u64 x9.num) := blk_cell hr9 1
      have t2 : W9.cell? ⟨w.heap.size, 2, none⟩ = some (.int .i64 x9.min) := blk_cell hr9 2
      have t3 : W9.cell? ⟨w.heap.size, 3, none⟩ = some (.int .i64 x9.br) := blk_cell hr9 3
      have t4 : W9.cell? ⟨w.heap.size, 4, none⟩ = some (.int .i64 x9.vol) := blk_cell hr9 4
      have t5 : W9.cell? ⟨w.heap.size, 5, none⟩ = some (.int .i64 x9.blk) := blk_cell hr9 5
      have t6 : W9.cell? ⟨w.heap.size, 6, none⟩ = some (.int .u64 x9.ref) := blk_cell hr9 6
      have t7 : W9.cell? ⟨w.heap.size, 7, none⟩ = some (.int .i64 x9.fr) := blk_cell hr9 7
      have t8 : W9.cell? ⟨w.heap.size, 8, none⟩ = some (.int .i64 x9.to) := blk_cell hr9 8
      have t9 : W9.cell? ⟨w.heap.size, 9, none⟩ = some (.int .i64 x9.un) := blk_cell hr9 9
      have t10 : W9.cell? ⟨w.heap.size, 10, none⟩ = some (.slice none x9.body.length 0) := blk_cell hr9 10
      refine bodyPost_ret (v := .tuple #[.agg (celA x9 none 0), .slice A0 lr k0, .int .i64 0]) (by simp [results, Try.results27, go_sem, t0, t1, t2, t3, t4, t5, t6, t7, t8, t9, t10]) rfl ?_
      rw [HE.out]
      have hdl : (b.drop (9)).length = lr := by rw [List.length_drop, HLR.out]
      refine ⟨⟨none, 0, A0, k0, by rw [hdl], ho9, ?_, by rw [hdl, HLR.out]; exact HR0.out.1⟩, hb9⟩
      show Kd.C _ _ _ (b.drop (9)).length _
      rw [List.length_drop]
      exact HR0.out.2
set_option maxHeartbeats 6400000 in
set_option maxRecDepth 100000 in
theorem decode_n (A : Option Addr) (c : Nat) (b : List Int) (v w : World) (hv : Below v.heap.size v w) (hr : RdB v A b) (hc : b.length ≤ c) (hy : Byt b) (hl : b.length ≤ 1000) (h0 : b.length ≠ 0) (hV : Aside0 (partsV (gv b 0 1) = .agg #[.bool false, .bool false, .bool false, .bool false])) (hK : Aside0 (hasKind (gv b 0 1) = true)) (nb : Nat) (hnb : Aside0 (nb = 0))
    (x9 : Cel) (hx9 : Aside0 (x9 = ⟨gv b 0 1, gv b 1 2, gv b 3 4, 0, 0, 0, 0, 0, 0, 0, []⟩)) (hwf : Aside0 (CelWf x9)) (res : Cel × List Int × Int)
    (hres : Aside0 (res = if b.length < 7 then (cel0, [], 14) else if rightB x9 then (x9, b.drop (7), 0) else (cel0, [], 3))) :
    Calls Try.prog 27 #[.slice A b.length c] w fun e w' => (∃ A1 c1 A2 c2, e = .returned (.tuple #[.agg (celA res.1 A1 c1), .slice A2 res.2.1.length c2, .int .i64 res.2.2]) ∧ OwB w' w.heap.size (.slice A1 res.1.body.length c1) res.1.body ∧ RdB v A2 res.2.1 ∧ res.2.1.length ≤ c2) ∧ Below w.heap.size w w' := by
  have hmx := C_max hr
  have HR := Aside0.mk hr
  have HVW := Aside0.mk hv
  have HY := Aside0.mk hy
  have HC := Aside0.mk hc
  have e1 : IntKind.u64.wrap (gv b 1 2) = gv b 1 2 := wrap_u64_in _ (gv_range hy 1 2).1 (by have := (gv_range hy 1 2).2; omega)
  clear hr hy hc hv
  go_enter Try.func27, Try.ntmps27
  go_upto_region 8 with (first | (go_at_call 39; go_must (refine (num_any (w.heap.size + 1) b 0 1 1 rfl v _ (dec_start HVW.out HR.out HC.out) HY.out (by decide) (by decide)).mono ?_; rintro e w1 ⟨rfl, h2, hk⟩; have HRD := Aside0.mk h2; have HK1 := Aside0.mk hk; clear h2 hk)) | (go_at_call 36; go_must (refine (has_any (gv b 0 1) _).mono ?_; rintro e w2 ⟨rfl, hb⟩; rw [hV.out, hK.out]; have HB2 := Aside0.mk hb; clear hb)))
  obtain ⟨W3, hW3⟩ : ∃ W3, W3 = w2.alloc (.cells #[.bool false, .bool false, .bool false, .bool false] 84) := ⟨_, rfl⟩
  rw [← hW3]
  have HD := Aside0.mk (show DS v w W3 (w.heap.size + 1) w1.heap.size w2.heap.size b 1 ⟨gv b 0 1, 0, 0, 0, 0, 0, 0, 0, 0, 0, []⟩ none 0 #[.bool false, .bool false, .bool false, .bool false] by rw [hW3]; exact dec_first HVW.out HRD.out HK1.out HB2.out)
  obtain ⟨p, hp⟩ : ∃ p, p = w.heap.size + 1 := ⟨_, rfl⟩
  obtain ⟨g6, hg6⟩ : ∃ g, g = w1.heap.size := ⟨_, rfl⟩
  obtain ⟨g7, hg7⟩ : ∃ g, g = w2.heap.size := ⟨_, rfl⟩
  rw [← hp, ← hg6, ← hg7] at HD ⊢
  have hord := HD.out.ord
  clear hW3 HRD HK1 HB2 hp hg6 hg7
  have hx6 := HD.out.cell
  obtain ⟨c0, c1, c2, c3, c4, c5, c6, c7, c8, c9⟩ := cel_at (x := ⟨gv b 0 1, 0, 0, 0, 0, 0, 0, 0, 0, 0, []⟩) (A := none) (c := 0) hx6
  have c10 : W3.cell? ⟨g6, 10, none⟩ = some (.slice none 0 0) := blk_cell hx6 10
  (try simp only at c0 c1 c2 c3 c4 c5 c6 c7 c8 c9)
  have z1 := blk_frozen hx6 1
  have z2 := blk_frozen hx6 2
  have hx7 := HD.out.pts
  have q0 : W3.cell? ⟨g7, 0, none⟩ = some (.bool false) := blk_cell hx7 0
  have q1 : W3.cell? ⟨g7, 1, none⟩ = some (.bool false) := blk_cell hx7 1
  have q2 : W3.cell? ⟨g7, 2, none⟩ = some (.bool false) := blk_cell hx7 2
  have q3 : W3.cell? ⟨g7, 3, none⟩ = some (.bool false) := blk_cell hx7 3
  clear hx6 hx7
  go_upto_region 17 with (first
    | (go_at_call 39; (with_reducible refine (num_any p b 1 2 2 rfl v W3 HD.out.rd HY.out (by decide) (by decide)).mono ?_); go_must (rintro e y1 ⟨rfl, h2, hk⟩; replace HD := Aside0.mk (HD.out.num h2 hk); clear c0 c1 c2 c3 c4 c5 c6 c7 c8 c9 c10 q0 q1 q2 q3 z1 z2; have hx6 := HD.out.cell; obtain ⟨c0, c1, c2, c3, c4, c5, c6, c7, c8, c9⟩ := cel_at (x := ⟨gv b 0 1, 0, 0, 0, 0, 0, 0, 0, 0, 0, []⟩) (A := none) (c := 0) hx6; have c10 : y1.cell? ⟨g6, 10, none⟩ = some (.slice none 0 0) := blk_cell hx6 10; (try simp only at c0 c1 c2 c3 c4 c5 c6 c7 c8 c9); have z1 := blk_frozen hx6 1; have z2 := blk_frozen hx6 2; have hx7 := HD.out.pts; have q0 : y1.cell? ⟨g7, 0, none⟩ = some (.bool false) := blk_cell hx7 0; have q1 : y1.cell? ⟨g7, 1, none⟩ = some (.bool false) := blk_cell hx7 1; have q2 : y1.cell? ⟨g7, 2, none⟩ = some (.bool false) := blk_cell hx7 2; have q3 : y1.cell? ⟨g7, 3, none⟩ = some (.bool false) := blk_cell hx7 3; clear hx6 hx7; clear h2 hk))
    | (go_at_call 39; (with_reducible refine (num_any p b 3 4 4 rfl v y1 HD.out.rd HY.out (by decide) (by decide)).mono ?_); go_must (rintro e y2 ⟨rfl, h2, hk⟩; replace HD := Aside0.mk (HD.out.num h2 hk); clear c0 c1 c2 c3 c4 c5 c6 c7 c8 c9 c10 q0 q1 q2 q3 z1 z2; have hx6 := HD.out.cell; obtain ⟨c0, c1, c2, c3, c4, c5, c6, c7, c8, c9⟩ := cel_at (x := ⟨gv b 0 1, 0, 0, 0, 0, 0, 0, 0, 0, 0, []⟩) (A := none) (c := 0) hx6; have c10 : y2.cell? ⟨g6, 10, none⟩ = some (.slice none 0 0) := blk_cell hx6 10; (try simp only at c0 c1 c2 c3 c4 c5 c6 c7 c8 c9); have z1 := blk_frozen hx6 1; have z2 := blk_frozen hx6 2; have hx7 := HD.out.pts; have q0 : y2.cell? ⟨g7, 0, none⟩ = some (.bool false) := blk_cell hx7 0; have q1 : y2.cell? ⟨g7, 1, none⟩ = some (.bool false) := blk_cell hx7 1; have q2 : y2.cell? ⟨g7, 2, none⟩ = some (.bool false) := blk_cell hx7 2; have q3 : y2.cell? ⟨g7, 3, none⟩ = some (.bool false) := blk_cell hx7 3; clear hx6 hx7; clear h2 hk)))
  obtain ⟨V8, hV8⟩ : ∃ W, W = ((y2.setCell ⟨g6, 1, none⟩ (.int .u64 (gv b 1 2))).setCell ⟨g6, 2, none⟩ (.int .i64 (gv b 3 4))) := ⟨_, rfl⟩
  rw [← hV8]
  replace HD := Aside0.mk (show DS v w V8 p g6 g7 b (7) ⟨gv b 0 1, gv b 1 2, gv b 3 4, 0, 0, 0, 0, 0, 0, 0, []⟩ none 0 #[.bool false, .bool false, .bool false, .bool false] by rw [hV8]; exact ((HD.out.set_ 1 (.int .u64 (gv b 1 2)) (x' := ⟨gv b 0 1, gv b 1 2, 0, 0, 0, 0, 0, 0, 0, 0, []⟩) rfl rfl).set_ 2 (.int .i64 (gv b 3 4)) (x' := ⟨gv b 0 1, gv b 1 2, gv b 3 4, 0, 0, 0, 0, 0, 0, 0, []⟩) rfl rfl))
  clear hV8; clear c0 c1 c2 c3 c4 c5 c6 c7 c8 c9 c10 q0 q1 q2 q3 z1 z2
  replace HD := Aside0.mk (show DS v w V8 p g6 g7 b (7) x9 none 0 #[.bool false, .bool false, .bool false, .bool false] by rw [hx9.out]; exact HD.out)
  obtain ⟨hrd1, hrd2, A0, k0, hk0, hr0, hp0⟩ := HD.out.rd
  have r0 : V8.cell? ⟨p, 0, none⟩ = some (.slice A0 (b.length - (7)) k0) := blk_cell hp0 0
  have r1 : V8.cell? ⟨p, 1, none⟩ = some (.bool (decide (b.length < 7))) := blk_cell hp0 1
  have HR0 := Aside0.mk (And.intro hk0 hr0)
  clear hrd1 hrd2 hk0 hr0 hp0
  obtain ⟨lr, hlr⟩ : ∃ lr, lr = b.length - (7) := ⟨_, rfl⟩
  rw [← hlr] at r0
  have HLR := Aside0.mk hlr
  clear hlr
  have hx6 := HD.out.cell
  obtain ⟨c0, c1, c2, c3, c4, c5, c6, c7, c8, c9⟩ := cel_at (x := x9) (A := none) (c := 0) hx6
  have c10 : V8.cell? ⟨g6, 10, none⟩ = some (.slice none x9.body.length 0) := blk_cell hx6 10
  (try simp only at c0 c1 c2 c3 c4 c5 c6 c7 c8 c9)
  have hx7 := HD.out.pts
  have q0 : V8.cell? ⟨g7, 0, none⟩ = some (.bool false) := blk_cell hx7 0
  have q1 : V8.cell? ⟨g7, 1, none⟩ = some (.bool false) := blk_cell hx7 1
  have q2 : V8.cell? ⟨g7, 2, none⟩ = some (.bool false) := blk_cell hx7 2
  have q3 : V8.cell? ⟨g7, 3, none⟩ = some (.bool false) := blk_cell hx7 3
  clear hx6 hx7
  have hxr := HD.out.res
  have t0 : V8.cell? ⟨w.heap.size, 0, none⟩ = some (.int .i64 0) := blk_cell hxr 0
  have t1 : V8.cell? ⟨w.heap.size, 1, none⟩ = some (.int .u64 0) := blk_cell hxr 1
  have t2 : V8.cell? ⟨w.heap.size, 2, none⟩ = some (.int .i64 0) := blk_cell hxr 2
  have t3 : V8.cell? ⟨w.heap.size, 3, none⟩ = some (.int .i64 0) := blk_cell hxr 3
  have t4 : V8.cell? ⟨w.heap.size, 4, none⟩ = some (.int .i64 0) := blk_cell hxr 4
  have t5 : V8.cell? ⟨w.heap.size, 5, none⟩ = some (.int .i64 0) := blk_cell hxr 5
  have t6 : V8.cell? ⟨w.heap.size, 6, none⟩ = some (.int .u64 0) := blk_cell hxr 6
  have t7 : V8.cell? ⟨w.heap.size, 7, none⟩ = some (.int .i64 0) := blk_cell hxr 7
  have t8 : V8.cell? ⟨w.heap.size, 8, none⟩ = some (.int .i64 0) := blk_cell hxr 8
  have t9 : V8.cell? ⟨w.heap.size, 9, none⟩ = some (.int .i64 0) := blk_cell hxr 9
  have t10 : V8.cell? ⟨w.heap.size, 10, none⟩ = some (.slice none 0 0) := blk_cell hxr 10
  have zt0 := blk_frozen hxr 0
  have zt1 := blk_frozen hxr 1
  have zt2 := blk_frozen hxr 2
  have zt3 := blk_frozen hxr 3
  have zt4 := blk_frozen hxr 4
  have zt5 := blk_frozen hxr 5
  have zt6 := blk_frozen hxr 6
  have zt7 := blk_frozen hxr 7
  have zt8 := blk_frozen hxr 8
  have zt9 := blk_frozen hxr 9
  have zt10 := blk_frozen hxr 10
  clear hxr
  cases hs : decide (b.length < 7) with
  | true =>
    rw [hs] at r1
    have HE := Aside0.mk (show res = (cel0, [], 14) by rw [hres.out, if_pos (of_decide_eq_true hs)])
    clear hs
    go_wp2
    obtain ⟨W9, hW9⟩ : ∃ W9, W9 = (((((((((((V8.setCell ⟨w.heap.size, 0, none⟩ (.int .i64 0)).setCell ⟨w.heap.size, 1, none⟩ (.int .u64 0)).setCell ⟨w.heap.size, 2, none⟩ (.int .i64 0)).setCell ⟨w.heap.size, 3, none⟩ (.int .i64 0)).setCell ⟨w.heap.size, 4, none⟩ (.int .i64 0)).setCell ⟨w.heap.size, 5, none⟩ (.int .i64 0)).setCell ⟨w.heap.size, 6, none⟩ (.int .u64 0)).setCell ⟨w.heap.size, 7, none⟩ (.int .i64 0)).setCell ⟨w.heap.size, 8, none⟩ (.int .i64 0)).setCell ⟨w.heap.size, 9, none⟩ (.int .i64 0)).setCell ⟨w.heap.size, 10, none⟩ (.slice none 0 0)) := ⟨_, rfl⟩
    rw [← hW9]
    have hr9 : W9.heap[w.heap.size]? = some (.cells (celA cel0 none 0) 30 (0, 0)) := by rw [hW9]; exact putCell_at (x := cel0) (A := none) (c := 0) HD.out.res
    have hb9 : Below w.heap.size w W9 := by rw [hW9]; exact putCell_below (x := cel0) (A := none) (c := 0) HD.out.bel (Nat.le_refl _)
    clear hW9 t0 t1 t2 t3 t4 t5 t6 t7 t8 t9 t10
    have t0 : W9.cell? ⟨w.heap.size, 0, none⟩ = some (.int .i64 0) := blk_cell hr9 0
    have t1 : W9.cell? ⟨w.heap.size, 1, none⟩ = some (.int .u64 0) := blk_cell hr9 1
    have t2 : W9.cell? ⟨w.heap.size, 2, none⟩ = some (.int .i64 0) := blk_cell hr9 2
    have t3 : W9.cell? ⟨w.heap.size, 3, none⟩ = some (.int .i64 0) := blk_cell hr9 3
    have t4 : W9.cell? ⟨w.heap.size, 4, none⟩ = some (.int .i64 0) := blk_cell hr9 4
    have t5 : W9.cell? ⟨w.heap.size, 5, none⟩ = some (.int .i64 0) := blk_cell hr9 5
    have t6 : W9.cell? ⟨w.heap.size, 6, none⟩ = some (.int .u64 0) := blk_cell hr9 6
    have t7 : W9.cell? ⟨w.heap.size, 7, none⟩ = some (.int .i64 0) := blk_cell hr9 7
    have t8 : W9.cell? ⟨w.heap.size, 8, none⟩ = some (.int .i64 0) := blk_cell hr9 8
    have t9 : W9.cell? ⟨w.heap.size, 9, none⟩ = some (.int .i64 0) := blk_cell hr9 9
    have t10 : W9.cell? ⟨w.heap.size, 10, none⟩ = some (.slice none 0 0) := blk_cell hr9 10
    refine bodyPost_ret (v := .tuple #[.agg (celA cel0 none 0), .slice none 0 0, .int .i64 14]) (by simp [results, Try.results27, go_sem, cel0, t0, t1, t2, t3, t4, t5, t6, t7, t8, t9, t10]) rfl ?_
    rw [HE.out]
    exact ⟨⟨none, 0, none, 0, rfl, Kd.R_nil _ _ _ _ _, RdB_nil _, Nat.le_refl _⟩, hb9⟩
  | false =>
    rw [hs] at r1
    have HS := Aside0.mk (of_decide_eq_false hs)
    clear hs
    cases hq : rightB x9 with
    | false =>
      have HE := Aside0.mk (show res = (cel0, [], 3) by rw [hres.out, if_neg HS.out, if_neg (by rw [hq]; simp)])
      go_wp2_with (go_at_call 34; go_must (refine (right_any x9 none 0 _ (Ow_rd HD.out.own).2.2 hwf.out.2.2).mono ?_; rintro e y9 ⟨rfl, hb⟩; rw [hq]; replace HD := Aside0.mk (HD.out.below hb); replace r0 := pw_cell_below hb r0; replace r1 := pw_cell_below hb r1; clear c0 c1 c2 c3 c4 c5 c6 c7 c8 c9 c10 q0 q1 q2 q3 t0 zt0 t1 zt1 t2 zt2 t3 zt3 t4 zt4 t5 zt5 t6 zt6 t7 zt7 t8 zt8 t9 zt9 t10 zt10; have hx6 := HD.out.cell; obtain ⟨c0, c1, c2, c3, c4, c5, c6, c7, c8, c9⟩ := cel_at (x := x9) (A := none) (c := 0) hx6; have c10 : y9.cell? ⟨g6, 10, none⟩ = some (.slice none x9.body.length 0) := blk_cell hx6 10; (try simp only at c0 c1 c2 c3 c4 c5 c6 c7 c8 c9); have hx7 := HD.out.pts; have q0 : y9.cell? ⟨g7, 0, none⟩ = some (.bool false) := blk_cell hx7 0; have q1 : y9.cell? ⟨g7, 1, none⟩ = some (.bool false) := blk_cell hx7 1; have q2 : y9.cell? ⟨g7, 2, none⟩ = some (.bool false) := blk_cell hx7 2; have q3 : y9.cell? ⟨g7, 3, none⟩ = some (.bool false) := blk_cell hx7 3; clear hx6 hx7; have hxr := HD.out.res; have t0 : y9.cell? ⟨w.heap.size, 0, none⟩ = some (.int .i64 0) := blk_cell hxr 0; have t1 : y9.cell? ⟨w.heap.size, 1, none⟩ = some (.int .u64 0) := blk_cell hxr 1; have t2 : y9.cell? ⟨w.heap.size, 2, none⟩ = some (.int .i64 0) := blk_cell hxr 2; have t3 : y9.cell? ⟨w.heap.size, 3, none⟩ = some (.int .i64 0) := blk_cell hxr 3; have t4 : y9.cell? ⟨w.heap.size, 4, none⟩ = some (.int .i64 0) := blk_cell hxr 4; have t5 : y9.cell? ⟨w.heap.size, 5, none⟩ = some (.int .i64 0) := blk_cell hxr 5; have t6 : y9.cell? ⟨w.heap.size, 6, none⟩ = some (.int .u64 0) := blk_cell hxr 6; have t7 : y9.cell? ⟨w.heap.size, 7, none⟩ = some (.int .i64 0) := blk_cell hxr 7; have t8 : y9.cell? ⟨w.heap.size, 8, none⟩ = some (.int .i64 0) := blk_cell hxr 8; have t9 : y9.cell? ⟨w.heap.size, 9, none⟩ = some (.int .i64 0) := blk_cell hxr 9; have t10 : y9.cell? ⟨w.heap.size, 10, none⟩ = some (.slice none 0 0) := blk_cell hxr 10; have zt0 := blk_frozen hxr 0; have zt1 := blk_frozen hxr 1; have zt2 := blk_frozen hxr 2; have zt3 := blk_frozen hxr 3; have zt4 := blk_frozen hxr 4; have zt5 := blk_frozen hxr 5; have zt6 := blk_frozen hxr 6; have zt7 := blk_frozen hxr 7; have zt8 := blk_frozen hxr 8; have zt9 := blk_frozen hxr 9; have zt10 := blk_frozen hxr 10; clear hxr; clear hb))
      obtain ⟨W9, hW9⟩ : ∃ W9, W9 = (((((((((((y9.setCell ⟨w.heap.size, 0, none⟩ (.int .i64 0)).setCell ⟨w.heap.size, 1, none⟩ (.int .u64 0)).setCell ⟨w.heap.size, 2, none⟩ (.int .i64 0)).setCell ⟨w.heap.size, 3, none⟩ (.int .i64 0)).setCell ⟨w.heap.size, 4, none⟩ (.int .i64 0)).setCell ⟨w.heap.size, 5, none⟩ (.int .i64 0)).setCell ⟨w.heap.size, 6, none⟩ (.int .u64 0)).setCell ⟨w.heap.size, 7, none⟩ (.int .i64 0)).setCell ⟨w.heap.size, 8, none⟩ (.int .i64 0)).setCell ⟨w.heap.size, 9, none⟩ (.int .i64 0)).setCell ⟨w.heap.size, 10, none⟩ (.slice none 0 0)) := ⟨_, rfl⟩
      rw [← hW9]
      have hr9 : W9.heap[w.heap.size]? = some (.cells (celA cel0 none 0) 30 (0, 0)) := by rw [hW9]; exact putCell_at (x := cel0) (A := none) (c := 0) HD.out.res
      have hb9 : Below w.heap.size w W9 := by rw [hW9]; exact putCell_below (x := cel0) (A := none) (c := 0) HD.out.bel (Nat.le_refl _)
      clear hW9 t0 t1 t2 t3 t4 t5 t6 t7 t8 t9 t10
      have t0 : W9.cell? ⟨w.heap.size, 0, none⟩ = some (.int .i64 0) := blk_cell hr9 0
      have t1 : W9.cell? ⟨w.heap.size, 1, none⟩ = some (.int .u64 0) := blk_cell hr9 1
      have t2 : W9.cell? ⟨w.heap.size, 2, none⟩ = some (.int .i64 0) := blk_cell hr9 2
      have t3 : W9.cell? ⟨w.heap.size, 3, none⟩ = some (.int .i64 0) := blk_cell hr9 3
      have t4 : W9.cell? ⟨w.heap.size, 4, none⟩ = some (.int .i64 0) := blk_cell hr9 4
      have t5 : W9.cell? ⟨w.heap.size, 5, none⟩ = some (.int .i64 0) := blk_cell hr9 5
      have t6 : W9.cell? ⟨w.heap.size, 6, none⟩ = some (.int .u64 0) := blk_cell hr9 6
      have t7 : W9.cell? ⟨w.heap.size, 7, none⟩ = some (.int .i64 0) := blk_cell hr9 7
      have t8 : W9.cell? ⟨w.heap.size, 8, none⟩ = some (.int .i64 0) := blk_cell hr9 8
      have t9 : W9.cell? ⟨w.heap.size, 9, none⟩ = some (.int .i64 0) := blk_cell hr9 9
      have t10 : W9.cell? ⟨w.heap.size, 10, none⟩ = some (.slice none 0 0) := blk_cell hr9 10
      refine bodyPost_ret (v := .tuple #[.agg (celA cel0 none 0), .slice none 0 0, .int .i64 3]) (by simp [results, Try.results27, go_sem, cel0, t0, t1, t2, t3, t4, t5, t6, t7, t8, t9, t10]) rfl ?_
      rw [HE.out]
      exact ⟨⟨none, 0, none, 0, rfl, Kd.R_nil _ _ _ _ _, RdB_nil _, Nat.le_refl _⟩, hb9⟩
    | true =>
      have HE := Aside0.mk (show res = (x9, b.drop (7), 0) by rw [hres.out, if_neg HS.out, if_pos hq])
      go_wp2_with (go_at_call 34; go_must (refine (right_any x9 none 0 _ (Ow_rd HD.out.own).2.2 hwf.out.2.2).mono ?_; rintro e y9 ⟨rfl, hb⟩; rw [hq]; replace HD := Aside0.mk (HD.out.below hb); replace r0 := pw_cell_below hb r0; replace r1 := pw_cell_below hb r1; clear c0 c1 c2 c3 c4 c5 c6 c7 c8 c9 c10 q0 q1 q2 q3 t0 zt0 t1 zt1 t2 zt2 t3 zt3 t4 zt4 t5 zt5 t6 zt6 t7 zt7 t8 zt8 t9 zt9 t10 zt10; have hx6 := HD.out.cell; obtain ⟨c0, c1, c2, c3, c4, c5, c6, c7, c8, c9⟩ := cel_at (x := x9) (A := none) (c := 0) hx6; have c10 : y9.cell? ⟨g6, 10, none⟩ = some (.slice none x9.body.length 0) := blk_cell hx6 10; (try simp only at c0 c1 c2 c3 c4 c5 c6 c7 c8 c9); have hx7 := HD.out.pts; have q0 : y9.cell? ⟨g7, 0, none⟩ = some (.bool false) := blk_cell hx7 0; have q1 : y9.cell? ⟨g7, 1, none⟩ = some (.bool false) := blk_cell hx7 1; have q2 : y9.cell? ⟨g7, 2, none⟩ = some (.bool false) := blk_cell hx7 2; have q3 : y9.cell? ⟨g7, 3, none⟩ = some (.bool false) := blk_cell hx7 3; clear hx6 hx7; have hxr := HD.out.res; have t0 : y9.cell? ⟨w.heap.size, 0, none⟩ = some (.int .i64 0) := blk_cell hxr 0; have t1 : y9.cell? ⟨w.heap.size, 1, none⟩ = some (.int .u64 0) := blk_cell hxr 1; have t2 : y9.cell? ⟨w.heap.size, 2, none⟩ = some (.int .i64 0) := blk_cell hxr 2; have t3 : y9.cell? ⟨w.heap.size, 3, none⟩ = some (.int .i64 0) := blk_cell hxr 3; have t4 : y9.cell? ⟨w.heap.size, 4, none⟩ = some (.int .i64 0) := blk_cell hxr 4; have t5 : y9.cell? ⟨w.heap.size, 5, none⟩ = some (.int .i64 0) := blk_cell hxr 5; have t6 : y9.cell? ⟨w.heap.size, 6, none⟩ = some (.int .u64 0) := blk_cell hxr 6; have t7 : y9.cell? ⟨w.heap.size, 7, none⟩ = some (.int .i64 0) := blk_cell hxr 7; have t8 : y9.cell? ⟨w.heap.size, 8, none⟩ = some (.int .i64 0) := blk_cell hxr 8; have t9 : y9.cell? ⟨w.heap.size, 9, none⟩ = some (.int .i64 0) := blk_cell hxr 9; have t10 : y9.cell? ⟨w.heap.size, 10, none⟩ = some (.slice none 0 0) := blk_cell hxr 10; have zt0 := blk_frozen hxr 0; have zt1 := blk_frozen hxr 1; have zt2 := blk_frozen hxr 2; have zt3 := blk_frozen hxr 3; have zt4 := blk_frozen hxr 4; have zt5 := blk_frozen hxr 5; have zt6 := blk_frozen hxr 6; have zt7 := blk_frozen hxr 7; have zt8 := blk_frozen hxr 8; have zt9 := blk_frozen hxr 9; have zt10 := blk_frozen hxr 10; clear hxr; clear hb))
      go_wp2_with (fail)
      refine start_ (n := 8) (S := fun w' => w'.heap[g6]? = some (.cells (celA x9 none 0) 30 (0, 0)) ∧ w'.cell? ⟨p, 0, none⟩ = some (.slice A0 lr k0)) (ds := []) #[false, false, false, false, false, false, false, false] (by kernel_rfl) rfl rfl ⟨(HD.out.below (below_drew (Below.refl _ _))).cell, pw_cell_below (below_drew (Below.refl _ _)) r0⟩ (fun hHeld => ?_); refine with_tab tabD21_ok (fun HT_ => ?_)
      have hb : Below y9.heap.size y9 y9.drew := below_drew (Below.refl _ _)
      skip
      clear hb
      refine take_ (i := 0) (N := some 81) (v := ?_) (a' := ?_) #[true, false, false, false, false, false, false, false] rfl rfl (take_of HT_.out (by kernel_rfl)) (fun _ _ _ h => h) (Or.inl ⟨by rfl, ?_⟩) hHeld ?_ ?_
      rotate_left
      · intro w' hw'
        obtain ⟨s0, s1⟩ := hw'; obtain ⟨c0, c1, c2, c3, c4, c5, c6, c7, c8, c9⟩ := cel_at (x := x9) (A := none) (c := 0) s0; have c10 : w'.cell? ⟨g6, 10, none⟩ = some (.slice none x9.body.length 0) := blk_cell s0 10
        go_simp
        with_reducible rfl
      rotate_left
      · simp only [Act.put, List.setIfInBounds_toArray, List.set_cons_zero, List.set_cons_succ]
        rfl
      refine pure_ (i := 1) (N := some 82) (v := ?_) (a' := ?_) #[true, true, false, false, false, false, false, false] rfl rfl (any_of HT_.out (by kernel_rfl)) (fun _ _ _ h => h) (Or.inl ⟨by rfl, ?_⟩) ?_ ?_
      rotate_left
      · intro w'
        go_simp
        with_reducible rfl
      rotate_left
      · simp only [Act.put, List.setIfInBounds_toArray, List.set_cons_zero, List.set_cons_succ]
        rfl
      refine pure_ (i := 2) (N := some 83) (v := ?_) (a' := ?_) #[true, true, true, false, false, false, false, false] rfl rfl (any_of HT_.out (by kernel_rfl)) (fun _ _ _ h => h) (Or.inl ⟨by rfl, ?_⟩) ?_ ?_
      rotate_left
      · intro w'
        go_simp
        with_reducible rfl
      rotate_left
      · simp only [Act.put, List.setIfInBounds_toArray, List.set_cons_zero, List.set_cons_succ]
        rfl
      refine pure_ (i := 3) (N := some 84) (v := ?_) (a' := ?_) #[true, true, true, true, false, false, false, false] rfl rfl (any_of HT_.out (by kernel_rfl)) (fun _ _ _ h => h) (Or.inl ⟨by rfl, ?_⟩) ?_ ?_
      rotate_left
      · intro w'
        go_simp
        with_reducible rfl
      rotate_left
      · simp only [Act.put, List.setIfInBounds_toArray, List.set_cons_zero, List.set_cons_succ]
        rfl
      refine take_ (i := 4) (N := some 85) (v := ?_) (a' := ?_) #[true, true, true, true, true, false, false, false] rfl rfl (take_of HT_.out (by kernel_rfl)) (fun _ _ _ h => h) (Or.inl ⟨by rfl, ?_⟩) hHeld ?_ ?_
      rotate_left
      · intro w' hw'
        obtain ⟨s0, s1⟩ := hw'
        go_simp
        with_reducible rfl
      rotate_left
      · simp only [Act.put, List.setIfInBounds_toArray, List.set_cons_zero, List.set_cons_succ]
        rfl
      refine one_ (i := 5) (N := none) #[true, true, true, true, true, true, false, false] rfl rfl (one_of HT_.out (by kernel_rfl)) (by decide) (fun Kq_ hK_ => ?_)
      refine skip_ (w1 := ?_) (by rfl) rfl ?_ ?_
      rotate_left
      · go_simp
        first | done | rfl
      refine hK_.out _ _ ⟨put_blk (W := y9) (g := w.heap.size) (x := x9) (A := none) (c := 0) (Nat.ne_of_gt (Nat.lt_trans hord.1 hord.2.1)) HD.out.cell, put_keeps (W := y9) (g := w.heap.size) (x := x9) (A := none) (c := 0) (Nat.ne_of_gt hord.1) r0⟩ (fun hHeld => ?_)
      clear hK_ Kq_
      refine pure_ (i := 6) (N := some 3) (v := ?_) (a' := ?_) #[true, true, true, true, true, true, true, false] rfl rfl (any_of HT_.out (by kernel_rfl)) (fun _ _ _ h => h) (Or.inl ⟨by rfl, ?_⟩) ?_ ?_
      rotate_left
      · intro w'
        go_simp
        with_reducible rfl
      rotate_left
      · simp only [Act.put, List.setIfInBounds_toArray, List.set_cons_zero, List.set_cons_succ]
        rfl
      refine pure_ (i := 7) (N := some 4) (v := ?_) (a' := ?_) #[true, true, true, true, true, true, true, true] rfl rfl (any_of HT_.out (by kernel_rfl)) (fun _ _ _ h => h) (Or.inl ⟨by rfl, ?_⟩) ?_ ?_
      rotate_left
      · intro w'
        go_simp
        with_reducible rfl
      rotate_left
      · simp only [Act.put, List.setIfInBounds_toArray, List.set_cons_zero, List.set_cons_succ]
        rfl
      refine done_ (done_of HT_.out (by kernel_rfl)) ?_
      clear HT_ hHeld
      go_wp2
      obtain ⟨W9, hW9⟩ : ∃ W9, W9 = (putCell y9 w.heap.size x9 none 0).drew := ⟨_, rfl⟩
      rw [← hW9]
      have hr9 : W9.heap[w.heap.size]? = some (.cells (celA x9 none 0) 30 (0, 0)) := by rw [hW9]; exact put_at_ HD.out.res
      have hb9 : Below w.heap.size w W9 := by rw [hW9]; exact put_below_ HD.out.bel (Nat.le_refl _)
      have ho9 : OwB W9 w.heap.size (.slice none x9.body.length 0) x9.body := by rw [hW9]; exact own_put HD.out.own HD.out.res (by decide) (fun k hk => put_far_ hk)
      clear hW9 t0 t1 t2 t3 t4 t5 t6 t7 t8 t9 t10
      have t0 : W9.cell? ⟨w.heap.size, 0, none⟩ = some (.int .i64 x9.kind) := blk_cell hr9 0
      have t1 : W9.cell? ⟨w.heap.size, 1, none⟩ = some (.int .u64 x9.num) := blk_cell hr9 1
      have t2 : W9.cell? ⟨w.heap.size, 2, none⟩ = some (.int .i64 x9.min) := blk_cell hr9 2
      have t3 : W9.cell? ⟨w.heap.size, 3, none⟩ = some (.int .i64 x9.br) := blk_cell hr9 3
      have t4 : W9.cell? ⟨w.heap.size, 4, none⟩ = some (.int .i64 x9.vol) := blk_cell hr9 4
      have t5 : W9.cell? ⟨w.heap.size, 5, none⟩ = some (.int .i64 x9.blk) := blk_cell hr9 5
      have t6 : W9.cell? ⟨w.heap.size, 6, none⟩ = some (.int .u64 x9.ref) := blk_cell hr9 6
      have t7 : W9.cell? ⟨w.heap.size, 7, none⟩ = some (.int .i64 x9.fr) := blk_cell hr9 7
      have t8 : W9.cell? ⟨w.heap.size, 8, none⟩ = some (.int .i64 x9.to) := blk_cell hr9 8
      have t9 : W9.cell? ⟨w.heap.size, 9, none⟩ = some (.int .i64 x9.un) := blk_cell hr9 9
      have t10 : W9.cell? ⟨w.heap.size, 10, none⟩ = some (.slice none x9.body.length 0) := blk_cell hr9 10
      refine bodyPost_ret (v := .tuple #[.agg (celA x9 none 0), .slice A0 lr k0, .int .i64 0]) (by simp [results, Try.results27, go_sem, t0, t1, t2, t3, t4, t5, t6, t7, t8, t9, t10]) rfl ?_
      rw [HE.out]
      have hdl : (b.drop (7)).length = lr := by rw [List.length_drop, HLR.out]
      refine ⟨⟨none, 0, A0, k0, by rw [hdl], ho9, ?_, by rw [hdl, HLR.out]; exact HR0.out.1⟩, hb9⟩
      show Kd.C _ _ _ (b.drop (7)).length _
      rw [List.length_drop]
      exact HR0.out.2
end Go.Proofs.Ytghcnipehgjegaa.Cell
