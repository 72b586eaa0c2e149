/- What Encode of the reference of layer 12 answers. Conditions stand in each statement. -/
import Derived.Test.YtghcnipehgjegaaCellRefs
import Derived.Deep.CutRange
namespace Go.Proofs.Ytghcnipehgjegaa.Cell
open Go.RowKit Go.Proofs.YtghcnipehgjegaaW.PrintWords Go.Proofs.YtghcnipehgjegaaW.PrintLast Go.Proofs.YtghcnipehgjegaaW.PrintMore Go.Proofs.Ytghcnipehgjegaa.Kit Go.Proofs.Ytghcnipehgjegaa.Plain Go.Proofs.Ytghcnipehgjegaa.Wire
set_option linter.unusedVariables false
set_option linter.unusedSimpArgs false
theorem refput_sl (n : Int) (s : Nat) (sI : Int) (hsI : sI = (s : Int)) (w : World) (h0 : 0 ≤ n) (h64 : n < 2 ^ 64) (h8 : s ≤ 8) :
    Calls Try.prog 37 #[.int .u64 n, .int .i64 sI] w fun e w' => ∃ A k, e = .returned (.slice A s k) ∧ OwB w' w.heap.size (.slice A s k) (put n s) ∧ Below w.heap.size w w' := by
  refine (refput_any n s sI hsI w h0 h64 h8).mono ?_
  rintro e w' ⟨v, rfl, ho, hb⟩
  obtain ⟨A, k, rfl⟩ := Kd.R_slice ho
  rw [put_len] at ho ⊢
  exact ⟨A, k, rfl, ho, hb⟩
theorem own_rd {w : World} {base : Nat} {ok : Nat → Prop} {A : Option Addr} {n c : Nat} {l : List Int} (h : Kd.R (Kd.int .u8) 5 w base ok (.slice A n c) l) : Kd.C (Kd.int .u8) w A n l := by
  obtain ⟨h1, _, h3⟩ := Kd.R_reads' h
  rw [h1]; exact h3
theorem put_one (n : Int) (h0 : 0 ≤ n) (h1 : n < 256) : put n 1 = [n] := by
  simp [put, dig]
  omega
def tabE1 : Bool × List (List Nat × List Nat) := (true, [([], []), ([0], [0]), ([1], [1]), ([2], [2]), ([], []), ([4], [4]), ([5, 3], [5]), ([3, 6, 6], [3, 6]), ([], []), ([8], [8]), ([9], [9]), ([10, 7], [10]), ([7, 11, 11], [7, 11]), ([12, 12, 0, 1, 2, 3, 4, 5, 6, 7, 8, 9, 10, 11, 12], [12])])
theorem tabE1_ok : rtab .any (opsOf Try.f26 1) = tabE1 := by kernel_rfl
def tabE4 : Bool × List (List Nat × List Nat) := (true, [([], []), ([], []), ([1], [1]), ([2], [2]), ([3], [3]), ([4], [4]), ([0, 5, 5], [0, 5]), ([], []), ([7], [7]), ([8], [8]), ([9], [9]), ([10, 6], [10]), ([6, 11, 11], [6, 11]), ([], []), ([13], [13]), ([14], [14]), ([15], [15]), ([16, 12], [16]), ([12, 17, 17], [12, 17]), ([18, 18, 0, 1, 2, 3, 4, 5, 6, 7, 8, 9, 10, 11, 12, 13, 14, 15, 16, 17, 18], [0, 18])])
theorem tabE4_ok : rtab .any (opsOf Try.f26 4) = tabE4 := by kernel_rfl
def tabE8 : Bool × List (List Nat × List Nat) := (true, [([], []), ([], []), ([1], [1]), ([2], [2]), ([3], [3]), ([0, 4, 4], [0, 4]), ([], []), ([6], [6]), ([7], [7]), ([8, 5], [8]), ([5, 9, 9], [5, 9]), ([], []), ([11], [11]), ([12], [12]), ([13, 10], [13]), ([10, 14, 14], [10, 14]), ([15, 15, 0, 1, 2, 3, 4, 5, 6, 7, 8, 9, 10, 11, 12, 13, 14, 15], [0, 15])])
theorem tabE8_ok : rtab .any (opsOf Try.f26 8) = tabE8 := by kernel_rfl
def tabE10 : Bool × List (List Nat × List Nat) := (true, [([], []), ([], []), ([1], [1]), ([2], [2]), ([3], [3]), ([4], [4]), ([0, 5], [0, 5]), ([], []), ([7], [7]), ([6, 8, 6], [6, 8]), ([9, 9, 0, 1, 2, 3, 4, 5, 6, 7, 8, 9], [0, 9])])
theorem tabE10_ok : rtab .any (opsOf Try.f26 10) = tabE10 := by kernel_rfl
set_option maxHeartbeats 6400000 in
set_option maxRecDepth 100000 in
theorem refencode_any (x : Cel) (A : Option Addr) (c : Nat) (w : World) (hr : RdN w A x.body.length x.body) (hw : CelWf x) (h : rightB x = true) :
    Calls Try.prog 26 #[.agg (celA x A c)] w fun e w' => (∃ v, e = .returned v ∧ OwB w' w.heap.size v (encS x)) ∧ Below w.heap.size w w' := by
  have hs := right_small hw h
  obtain ⟨⟨⟨a0, a1⟩, ⟨a2, a3⟩, ⟨a4, a5⟩, a6, a7⟩, ⟨⟨a8, a9⟩, ⟨a10, a11⟩, ⟨a12, a13⟩, ⟨a14, a15⟩, ⟨a16, a17⟩, a18, a19⟩, a20⟩ := hs
  have ekind : IntKind.u64.wrap x.kind = x.kind := wrap_u64_in _ (by omega) (by omega); have emin : IntKind.u64.wrap x.min = x.min := wrap_u64_in _ (by omega) (by omega); have ebr : IntKind.u64.wrap x.br = x.br := wrap_u64_in _ (by omega) (by omega); have evol : IntKind.u64.wrap x.vol = x.vol := wrap_u64_in _ (by omega) (by omega); have eblk : IntKind.u64.wrap x.blk = x.blk := wrap_u64_in _ (by omega) (by omega); have efr : IntKind.u64.wrap x.fr = x.fr := wrap_u64_in _ (by omega) (by omega); have eto : IntKind.u64.wrap x.to = x.to := wrap_u64_in _ (by omega) (by omega); have eun : IntKind.u64.wrap x.un = x.un := wrap_u64_in _ (by omega) (by omega)
  have eb : IntKind.u8.wrap (x.body.length : Int) = (x.body.length : Int) := IntWalk.u8_in _ (by omega)
  have HN := Aside0.mk (right_small hw h)
  have HR := Aside0.mk hr
  clear hr hw h a0 a1 a2 a3 a4 a5 a6 a7 a8 a9 a10 a11 a12 a13 a14 a15 a16 a17 a18 a19
  go_enter Try.func26, Try.ntmps26
  go_upto_region 1 with (fail)
  obtain ⟨W1, hW1⟩ : ∃ W1, W1 = w.alloc (.cells (celA x A c) 30) := ⟨_, rfl⟩
  rw [← hW1]
  have HXB := Aside0.mk (show W1.heap[w.heap.size]? = some (.cells (celA x A c) 30 (0, 0)) by rw [hW1]; exact blk_new _ _)
  have HB := Aside0.mk (show Below w.heap.size w W1 by rw [hW1]; exact below_alloc (Below.refl _ _) _)
  clear hW1
  go_cut [3] from 8 to 20 (fun v wx => Aside0 (OwB wx w.heap.size v ((put x.kind 1 ++ put x.num 2) ++ put x.min 4)) ∧ Aside0 (wx.heap[w.heap.size]? = some (.cells (celA x A c) 30 (0, 0))) ∧ Aside0 (Below w.heap.size w wx))
  case first =>
    go_wp2_with (fail)
    refine start_ (n := 14) (S := fun w' => w'.heap[w.heap.size]? = some (.cells (celA x A c) 30 (0, 0))) (ds := []) #[false, false, false, false, false, false, false, false, false, false, false, false, false, false] (by kernel_rfl) rfl rfl (show W1.drew.heap[w.heap.size]? = _ from HXB.out) (fun hHeld => ?_); refine with_tab tabE1_ok (fun HT_ => ?_)
    have hb : Below W1.heap.size W1 W1.drew := below_drew (Below.refl _ _)
    replace HXB := Aside0.mk ((hb.block _ (blk_lt HXB.out)).trans HXB.out)
    replace HB := Aside0.mk (HB.out.trans (hb.mono HB.out.size))
    clear hb
    refine pure_ (i := 0) (N := some 8) (v := ?_) (a' := ?_) #[true, false, false, false, false, false, false, false, false, false, false, false, false, false] rfl rfl (any_of HT_.out (by kernel_rfl)) (fun _ _ _ h => h) (Or.inl ⟨by rfl, ?_⟩) ?_ ?_
    rotate_left
    · intro w'
      go_simp
      with_reducible rfl
    rotate_left
    · simp only [Act.put, List.setIfInBounds_toArray, List.set_cons_zero, List.set_cons_succ]
      rfl
    refine take_ (i := 1) (N := some 9) (v := ?_) (a' := ?_) #[true, true, false, false, false, false, false, false, false, false, false, false, false, false] rfl rfl (take_of HT_.out (by kernel_rfl)) (fun _ _ _ h => h) (Or.inl ⟨by rfl, ?_⟩) hHeld ?_ ?_
    rotate_left
    · intro w' hw'
      obtain ⟨c0, c1, c2, c3, c4, c5, c6, c7, c8, c9⟩ := cel_at (x := x) (A := A) (c := c) hw'; have c10 : w'.cell? ⟨w.heap.size, 10, none⟩ = some (.slice A x.body.length c) := blk_cell hw' 10
      go_simp
      with_reducible rfl
    rotate_left
    · simp only [Act.put, List.setIfInBounds_toArray, List.set_cons_zero, List.set_cons_succ]
      rfl
    refine pure_ (i := 2) (N := some 10) (v := ?_) (a' := ?_) #[true, true, true, false, false, false, false, false, false, false, false, false, false, false] rfl rfl (any_of HT_.out (by kernel_rfl)) (fun _ _ _ h => h) (Or.inl ⟨by rfl, ?_⟩) ?_ ?_
    rotate_left
    · intro w'
      go_simp
      with_reducible rfl
    rotate_left
    · simp only [Act.put, List.setIfInBounds_toArray, List.set_cons_zero, List.set_cons_succ]
      rfl
    refine pure_ (i := 4) (N := some 12) (v := ?_) (a' := ?_) #[true, true, true, false, true, false, false, false, false, false, false, false, false, false] rfl rfl (any_of HT_.out (by kernel_rfl)) (fun _ _ _ h => h) (Or.inl ⟨by rfl, ?_⟩) ?_ ?_
    rotate_left
    · intro w'
      go_simp
      with_reducible rfl
    rotate_left
    · simp only [Act.put, List.setIfInBounds_toArray, List.set_cons_zero, List.set_cons_succ]
      rfl
    refine take_ (i := 5) (N := some 13) (v := ?_) (a' := ?_) #[true, true, true, false, true, true, false, false, false, false, false, false, false, false] rfl rfl (take_of HT_.out (by kernel_rfl)) (fun _ _ _ h => h) (Or.inl ⟨by rfl, ?_⟩) hHeld ?_ ?_
    rotate_left
    · intro w' hw'
      obtain ⟨c0, c1, c2, c3, c4, c5, c6, c7, c8, c9⟩ := cel_at (x := x) (A := A) (c := c) hw'; have c10 : w'.cell? ⟨w.heap.size, 10, none⟩ = some (.slice A x.body.length c) := blk_cell hw' 10
      go_simp
      with_reducible rfl
    rotate_left
    · simp only [Act.put, List.setIfInBounds_toArray, List.set_cons_zero, List.set_cons_succ]
      rfl
    refine pure_ (i := 8) (N := some 16) (v := ?_) (a' := ?_) #[true, true, true, false, true, true, false, false, true, false, false, false, false, false] rfl rfl (any_of HT_.out (by kernel_rfl)) (fun _ _ _ h => h) (Or.inl ⟨by rfl, ?_⟩) ?_ ?_
    rotate_left
    · intro w'
      go_simp
      with_reducible rfl
    rotate_left
    · simp only [Act.put, List.setIfInBounds_toArray, List.set_cons_zero, List.set_cons_succ]
      rfl
    refine take_ (i := 9) (N := some 17) (v := ?_) (a' := ?_) #[true, true, true, false, true, true, false, false, true, true, false, false, false, false] rfl rfl (take_of HT_.out (by kernel_rfl)) (fun _ _ _ h => h) (Or.inl ⟨by rfl, ?_⟩) hHeld ?_ ?_
    rotate_left
    · intro w' hw'
      obtain ⟨c0, c1, c2, c3, c4, c5, c6, c7, c8, c9⟩ := cel_at (x := x) (A := A) (c := c) hw'; have c10 : w'.cell? ⟨w.heap.size, 10, none⟩ = some (.slice A x.body.length c) := blk_cell hw' 10
      go_simp
      with_reducible rfl
    rotate_left
    · simp only [Act.put, List.setIfInBounds_toArray, List.set_cons_zero, List.set_cons_succ]
      rfl
    refine pure_ (i := 10) (N := some 18) (v := ?_) (a' := ?_) #[true, true, true, false, true, true, false, false, true, true, true, false, false, false] rfl rfl (any_of HT_.out (by kernel_rfl)) (fun _ _ _ h => h) (Or.inl ⟨by rfl, ?_⟩) ?_ ?_
    rotate_left
    · intro w'
      go_simp
      with_reducible rfl
    rotate_left
    · simp only [Act.put, List.setIfInBounds_toArray, List.set_cons_zero, List.set_cons_succ]
      rfl
    refine one_ (i := 3) (N := some 11) #[true, true, true, true, true, true, false, false, true, true, true, false, false, false] rfl rfl (one_of HT_.out (by kernel_rfl)) (by decide) (fun Kq_ hK_ => ?_)
    refine goes_ Try.func37 (by kernel_rfl) rfl #[.int .u64 (x.kind), .int .i64 1] (by rfl) rfl rfl (by (try simp only [List.map_toArray, List.map_cons, List.map_nil]); first | done | rfl) ?_
    with_reducible refine (refput_sl (x.kind) 1 1 rfl _ (by have := HN.out; omega) (by have := HN.out; omega) (by decide)).mono ?_
    rintro e w9 ⟨P11, k11, rfl, ho, hb⟩
    refine ⟨_, rfl, ?_⟩
    have HACC := Aside0.mk (Kd.R_lower ho HB.out.size)
    replace HXB := Aside0.mk ((hb.block _ (blk_lt HXB.out)).trans HXB.out)
    replace HB := Aside0.mk (HB.out.trans (hb.mono HB.out.size))
    clear ho hb
    refine hK_.out _ _ HXB.out (fun hHeld => ?_)
    clear hK_ Kq_
    refine norm_ (a' := ?_) ?_ ?_
    rotate_left
    · show Act.put _ (some 11) _ = _
      simp only [Act.put, List.setIfInBounds_toArray, List.set_cons_zero, List.set_cons_succ]
      rfl
    refine one_ (i := 6) (N := some 14) #[true, true, true, true, true, true, true, false, true, true, true, false, false, false] rfl rfl (one_of HT_.out (by kernel_rfl)) (by decide) (fun Kq_ hK_ => ?_)
    refine goes_ Try.func37 (by kernel_rfl) rfl #[.int .u64 (x.num), .int .i64 2] (by rfl) rfl rfl (by (try simp only [List.map_toArray, List.map_cons, List.map_nil]); first | done | rfl) ?_
    with_reducible refine (refput_sl (x.num) 2 2 rfl _ (by have := HN.out; omega) (by have := HN.out; omega) (by decide)).mono ?_
    rintro e w9 ⟨P14, k14, rfl, ho, hb⟩
    refine ⟨_, rfl, ?_⟩
    have HP14 := Aside0.mk (Kd.R_lower (Kd.R_new' ho (Kd.R_lt HACC.out)) HB.out.size)
    replace HACC := Aside0.mk (Kd.R_below HACC.out hb)
    replace HXB := Aside0.mk ((hb.block _ (blk_lt HXB.out)).trans HXB.out)
    replace HB := Aside0.mk (HB.out.trans (hb.mono HB.out.size))
    clear ho hb
    refine hK_.out _ _ HXB.out (fun hHeld => ?_)
    clear hK_ Kq_
    refine norm_ (a' := ?_) ?_ ?_
    rotate_left
    · show Act.put _ (some 14) _ = _
      simp only [Act.put, List.setIfInBounds_toArray, List.set_cons_zero, List.set_cons_succ]
      rfl
    refine one_ (i := 7) (N := some 15) #[true, true, true, true, true, true, true, true, true, true, true, false, false, false] rfl rfl (one_of HT_.out (by kernel_rfl)) (by decide) (fun Kq_ hK_ => ?_)
    refine appB_step w.heap.size (by rfl) (.tmp 11) (.tmp 14) rfl rfl _ (put (x.kind) 1) (put (x.num) 2) P14 2 k14 rfl rfl HACC.out (own_rd HP14.out) HB.out HB.out.size (by (try simp only [List.length_append, put_len]); omega) ?_
    intro v15 w9 ho hb hg hat
    replace HXB := Aside0.mk (blk_grown HXB.out hg (Kd.R_ne HACC.out HXB.out (by decide)))
    clear HACC
    have HACC := Aside0.mk ho
    clear HB
    have HB := Aside0.mk hb
    clear ho hb hg hat
    refine hK_.out _ _ HXB.out (fun hHeld => ?_)
    clear hK_ Kq_
    refine norm_ (a' := ?_) ?_ ?_
    rotate_left
    · show Act.put _ (some 15) _ = _
      simp only [Act.put, List.setIfInBounds_toArray, List.set_cons_zero, List.set_cons_succ]
      rfl
    refine one_ (i := 11) (N := some 19) #[true, true, true, true, true, true, true, true, true, true, true, true, false, false] rfl rfl (one_of HT_.out (by kernel_rfl)) (by decide) (fun Kq_ hK_ => ?_)
    refine goes_ Try.func37 (by kernel_rfl) rfl #[.int .u64 (x.min), .int .i64 4] (by rfl) rfl rfl (by (try simp only [List.map_toArray, List.map_cons, List.map_nil]); first | done | rfl) ?_
    with_reducible refine (refput_sl (x.min) 4 4 rfl _ (by have := HN.out; omega) (by have := HN.out; omega) (by decide)).mono ?_
    rintro e w9 ⟨P19, k19, rfl, ho, hb⟩
    refine ⟨_, rfl, ?_⟩
    have HP19 := Aside0.mk (Kd.R_lower (Kd.R_new' ho (Kd.R_lt HACC.out)) HB.out.size)
    replace HACC := Aside0.mk (Kd.R_below HACC.out hb)
    replace HXB := Aside0.mk ((hb.block _ (blk_lt HXB.out)).trans HXB.out)
    replace HB := Aside0.mk (HB.out.trans (hb.mono HB.out.size))
    clear ho hb
    refine hK_.out _ _ HXB.out (fun hHeld => ?_)
    clear hK_ Kq_
    refine norm_ (a' := ?_) ?_ ?_
    rotate_left
    · show Act.put _ (some 19) _ = _
      simp only [Act.put, List.setIfInBounds_toArray, List.set_cons_zero, List.set_cons_succ]
      rfl
    refine one_ (i := 12) (N := some 20) #[true, true, true, true, true, true, true, true, true, true, true, true, true, false] rfl rfl (one_of HT_.out (by kernel_rfl)) (by decide) (fun Kq_ hK_ => ?_)
    refine appB_step w.heap.size (by rfl) (.tmp 15) (.tmp 19) rfl rfl _ ((put (x.kind) 1 ++ put (x.num) 2)) (put (x.min) 4) P19 4 k19 rfl rfl HACC.out (own_rd HP19.out) HB.out HB.out.size (by (try simp only [List.length_append, put_len]); omega) ?_
    intro v20 w9 ho hb hg hat
    replace HXB := Aside0.mk (blk_grown HXB.out hg (Kd.R_ne HACC.out HXB.out (by decide)))
    clear HACC
    have HACC := Aside0.mk ho
    clear HB
    have HB := Aside0.mk hb
    clear ho hb hg hat
    refine hK_.out _ _ HXB.out (fun hHeld => ?_)
    clear hK_ Kq_
    refine norm_ (a' := ?_) ?_ ?_
    rotate_left
    · show Act.put _ (some 20) _ = _
      simp only [Act.put, List.setIfInBounds_toArray, List.set_cons_zero, List.set_cons_succ]
      rfl
    refine pure_ (i := 13) (N := some 3) (v := ?_) (a' := ?_) #[true, true, true, true, true, true, true, true, true, true, true, true, true, true] rfl rfl (any_of HT_.out (by kernel_rfl)) (fun _ _ _ h => h) (Or.inl ⟨by rfl, ?_⟩) ?_ ?_
    rotate_left
    · intro w'
      go_simp
      with_reducible rfl
    rotate_left
    · simp only [Act.put, List.setIfInBounds_toArray, List.set_cons_zero, List.set_cons_succ]
      rfl
    refine done_ (done_of HT_.out (by kernel_rfl)) ?_
    clear HT_ hHeld
    go_wp2
    go_meet
    case rel => exact ⟨HACC, HXB, HB⟩
  case rest =>
    obtain ⟨HACC, HXB, HB⟩ := hcut
    obtain ⟨y1, hy1⟩ : ∃ y, y = (put x.kind 1 ++ put x.num 2) ++ put x.min 4 := ⟨_, rfl⟩
    rw [← hy1] at HACC
    have hyl1 : y1.length ≤ 20 := by rw [hy1]; simp only [List.length_append, put_len]; omega
    have HY1 := Aside0.mk hy1
    clear hy1
    obtain ⟨W2, hW2⟩ : ∃ W : World, W = wc := ⟨_, rfl⟩
    rw [← hW2] at HACC HXB HB ⊢
    clear hW2
    have hx := HXB.out
    obtain ⟨c0, c1, c2, c3, c4, c5, c6, c7, c8, c9⟩ := cel_at (x := x) (A := A) (c := c) hx; have c10 : W2.cell? ⟨w.heap.size, 10, none⟩ = some (.slice A x.body.length c) := blk_cell hx 10
    clear hx
    go_upto_if 29 with (go_at_call 38; go_must (refine (refhas_any x.kind _).mono ?_; rintro e w3 ⟨rfl, rfl⟩; obtain ⟨bP, hbP⟩ : ∃ b, b = hasPlace x.kind := ⟨_, rfl⟩; obtain ⟨bR, hbR⟩ : ∃ b, b = hasRef x.kind := ⟨_, rfl⟩; obtain ⟨bM, hbM⟩ : ∃ b, b = hasMin x.kind := ⟨_, rfl⟩; obtain ⟨bB, hbB⟩ : ∃ b, b = hasBody x.kind := ⟨_, rfl⟩; rw [← hbP, ← hbR, ← hbM, ← hbB]; have HFL := Aside0.mk (And.intro hbP (And.intro hbR (And.intro hbM hbB))); clear hbP hbR hbM hbB))
    clear c0 c1 c2 c3 c4 c5 c6 c7 c8 c9 c10
    go_cut [3] from 30 to 48 (fun v wx => Aside0 (OwB wx w.heap.size v (y1 ++ (if bP then (put x.br 1 ++ (put x.vol 1 ++ put x.blk 2)) else []))) ∧ Aside0 (wx.heap[w.heap.size]? = some (.cells (celA x A c) 30 (0, 0))) ∧ Aside0 (Below w.heap.size w wx))
    case first =>
      cases bP with
      | false =>
        go_wp2
        go_meet
        case rel => exact ⟨⟨by simpa using HACC.out⟩, HXB, HB⟩
      | true =>
        go_wp2_with (fail)
        refine start_ (n := 20) (S := fun w' => w'.heap[w.heap.size]? = some (.cells (celA x A c) 30 (0, 0))) (ds := []) #[false, false, false, false, false, false, false, false, false, false, false, false, false, false, false, false, false, false, false, false] (by kernel_rfl) rfl rfl (show W2.drew.heap[w.heap.size]? = _ from HXB.out) (fun hHeld => ?_); refine with_tab tabE4_ok (fun HT_ => ?_)
        have hb : Below W2.heap.size W2 W2.drew := below_drew (Below.refl _ _)
        replace HXB := Aside0.mk ((hb.block _ (blk_lt HXB.out)).trans HXB.out)
        replace HACC := Aside0.mk (Kd.R_below HACC.out hb)
        replace HB := Aside0.mk (HB.out.trans (hb.mono HB.out.size))
        clear hb
        refine pure_ (i := 0) (N := some 30) (v := ?_) (a' := ?_) #[true, false, false, false, false, false, false, false, false, false, false, false, false, false, false, false, false, false, false, false] rfl rfl (any_of HT_.out (by kernel_rfl)) (fun _ _ _ h => h) (Or.inl ⟨by rfl, ?_⟩) ?_ ?_
        rotate_left
        · intro w'
          go_simp
          with_reducible rfl
        rotate_left
        · simp only [Act.put, List.setIfInBounds_toArray, List.set_cons_zero, List.set_cons_succ]
          rfl
        refine pure_ (i := 1) (N := some 31) (v := ?_) (a' := ?_) #[true, true, false, false, false, false, false, false, false, false, false, false, false, false, false, false, false, false, false, false] rfl rfl (any_of HT_.out (by kernel_rfl)) (fun _ _ _ h => h) (Or.inl ⟨by rfl, ?_⟩) ?_ ?_
        rotate_left
        · intro w'
          go_simp
          with_reducible rfl
        rotate_left
        · simp only [Act.put, List.setIfInBounds_toArray, List.set_cons_zero, List.set_cons_succ]
          rfl
        refine pure_ (i := 2) (N := some 32) (v := ?_) (a' := ?_) #[true, true, true, false, false, false, false, false, false, false, false, false, false, false, false, false, false, false, false, false] rfl rfl (any_of HT_.out (by kernel_rfl)) (fun _ _ _ h => h) (Or.inl ⟨by rfl, ?_⟩) ?_ ?_
        rotate_left
        · intro w'
          go_simp
          with_reducible rfl
        rotate_left
        · simp only [Act.put, List.setIfInBounds_toArray, List.set_cons_zero, List.set_cons_succ]
          rfl
        refine take_ (i := 3) (N := some 33) (v := ?_) (a' := ?_) #[true, true, true, true, false, false, false, false, false, false, false, false, false, false, false, false, false, false, false, false] rfl rfl (take_of HT_.out (by kernel_rfl)) (fun _ _ _ h => h) (Or.inl ⟨by rfl, ?_⟩) hHeld ?_ ?_
        rotate_left
        · intro w' hw'
          obtain ⟨c0, c1, c2, c3, c4, c5, c6, c7, c8, c9⟩ := cel_at (x := x) (A := A) (c := c) hw'; have c10 : w'.cell? ⟨w.heap.size, 10, none⟩ = some (.slice A x.body.length c) := blk_cell hw' 10
          go_simp
          with_reducible rfl
        rotate_left
        · simp only [Act.put, List.setIfInBounds_toArray, List.set_cons_zero, List.set_cons_succ]
          rfl
        refine pure_ (i := 4) (N := some 34) (v := ?_) (a' := ?_) #[true, true, true, true, true, false, false, false, false, false, false, false, false, false, false, false, false, false, false, false] rfl rfl (any_of HT_.out (by kernel_rfl)) (fun _ _ _ h => h) (Or.inl ⟨by rfl, ?_⟩) ?_ ?_
        rotate_left
        · intro w'
          go_simp
          with_reducible rfl
        rotate_left
        · simp only [Act.put, List.setIfInBounds_toArray, List.set_cons_zero, List.set_cons_succ]
          rfl
        refine pure_ (i := 7) (N := some 37) (v := ?_) (a' := ?_) #[true, true, true, true, true, false, false, true, false, false, false, false, false, false, false, false, false, false, false, false] rfl rfl (any_of HT_.out (by kernel_rfl)) (fun _ _ _ h => h) (Or.inl ⟨by rfl, ?_⟩) ?_ ?_
        rotate_left
        · intro w'
          go_simp
          with_reducible rfl
        rotate_left
        · simp only [Act.put, List.setIfInBounds_toArray, List.set_cons_zero, List.set_cons_succ]
          rfl
        refine pure_ (i := 8) (N := some 38) (v := ?_) (a' := ?_) #[true, true, true, true, true, false, false, true, true, false, false, false, false, false, false, false, false, false, false, false] rfl rfl (any_of HT_.out (by kernel_rfl)) (fun _ _ _ h => h) (Or.inl ⟨by rfl, ?_⟩) ?_ ?_
        rotate_left
        · intro w'
          go_simp
          with_reducible rfl
        rotate_left
        · simp only [Act.put, List.setIfInBounds_toArray, List.set_cons_zero, List.set_cons_succ]
          rfl
        refine take_ (i := 9) (N := some 39) (v := ?_) (a' := ?_) #[true, true, true, true, true, false, false, true, true, true, false, false, false, false, false, false, false, false, false, false] rfl rfl (take_of HT_.out (by kernel_rfl)) (fun _ _ _ h => h) (Or.inl ⟨by rfl, ?_⟩) hHeld ?_ ?_
        rotate_left
        · intro w' hw'
          obtain ⟨c0, c1, c2, c3, c4, c5, c6, c7, c8, c9⟩ := cel_at (x := x) (A := A) (c := c) hw'; have c10 : w'.cell? ⟨w.heap.size, 10, none⟩ = some (.slice A x.body.length c) := blk_cell hw' 10
          go_simp
          with_reducible rfl
        rotate_left
        · simp only [Act.put, List.setIfInBounds_toArray, List.set_cons_zero, List.set_cons_succ]
          rfl
        refine pure_ (i := 10) (N := some 40) (v := ?_) (a' := ?_) #[true, true, true, true, true, false, false, true, true, true, true, false, false, false, false, false, false, false, false, false] rfl rfl (any_of HT_.out (by kernel_rfl)) (fun _ _ _ h => h) (Or.inl ⟨by rfl, ?_⟩) ?_ ?_
        rotate_left
        · intro w'
          go_simp
          with_reducible rfl
        rotate_left
        · simp only [Act.put, List.setIfInBounds_toArray, List.set_cons_zero, List.set_cons_succ]
          rfl
        refine pure_ (i := 13) (N := some 43) (v := ?_) (a' := ?_) #[true, true, true, true, true, false, false, true, true, true, true, false, false, true, false, false, false, false, false, false] rfl rfl (any_of HT_.out (by kernel_rfl)) (fun _ _ _ h => h) (Or.inl ⟨by rfl, ?_⟩) ?_ ?_
        rotate_left
        · intro w'
          go_simp
          with_reducible rfl
        rotate_left
        · simp only [Act.put, List.setIfInBounds_toArray, List.set_cons_zero, List.set_cons_succ]
          rfl
        refine pure_ (i := 14) (N := some 44) (v := ?_) (a' := ?_) #[true, true, true, true, true, false, false, true, true, true, true, false, false, true, true, false, false, false, false, false] rfl rfl (any_of HT_.out (by kernel_rfl)) (fun _ _ _ h => h) (Or.inl ⟨by rfl, ?_⟩) ?_ ?_
        rotate_left
        · intro w'
          go_simp
          with_reducible rfl
        rotate_left
        · simp only [Act.put, List.setIfInBounds_toArray, List.set_cons_zero, List.set_cons_succ]
          rfl
        refine take_ (i := 15) (N := some 45) (v := ?_) (a' := ?_) #[true, true, true, true, true, false, false, true, true, true, true, false, false, true, true, true, false, false, false, false] rfl rfl (take_of HT_.out (by kernel_rfl)) (fun _ _ _ h => h) (Or.inl ⟨by rfl, ?_⟩) hHeld ?_ ?_
        rotate_left
        · intro w' hw'
          obtain ⟨c0, c1, c2, c3, c4, c5, c6, c7, c8, c9⟩ := cel_at (x := x) (A := A) (c := c) hw'; have c10 : w'.cell? ⟨w.heap.size, 10, none⟩ = some (.slice A x.body.length c) := blk_cell hw' 10
          go_simp
          with_reducible rfl
        rotate_left
        · simp only [Act.put, List.setIfInBounds_toArray, List.set_cons_zero, List.set_cons_succ]
          rfl
        refine pure_ (i := 16) (N := some 46) (v := ?_) (a' := ?_) #[true, true, true, true, true, false, false, true, true, true, true, false, false, true, true, true, true, false, false, false] rfl rfl (any_of HT_.out (by kernel_rfl)) (fun _ _ _ h => h) (Or.inl ⟨by rfl, ?_⟩) ?_ ?_
        rotate_left
        · intro w'
          go_simp
          with_reducible rfl
        rotate_left
        · simp only [Act.put, List.setIfInBounds_toArray, List.set_cons_zero, List.set_cons_succ]
          rfl
        refine one_ (i := 5) (N := some 35) #[true, true, true, true, true, true, false, true, true, true, true, false, false, true, true, true, true, false, false, false] rfl rfl (one_of HT_.out (by kernel_rfl)) (by decide) (fun Kq_ hK_ => ?_)
        refine goes_ Try.func37 (by kernel_rfl) rfl #[.int .u64 (x.br), .int .i64 1] (by rfl) rfl rfl (by (try simp only [List.map_toArray, List.map_cons, List.map_nil]); first | done | rfl) ?_
        with_reducible refine (refput_sl (x.br) 1 1 rfl _ (by have := HN.out; omega) (by have := HN.out; omega) (by decide)).mono ?_
        rintro e w9 ⟨P35, k35, rfl, ho, hb⟩
        refine ⟨_, rfl, ?_⟩
        have HP35 := Aside0.mk (Kd.R_lower (Kd.R_new' ho (Kd.R_lt HACC.out)) HB.out.size)
        replace HACC := Aside0.mk (Kd.R_below HACC.out hb)
        replace HXB := Aside0.mk ((hb.block _ (blk_lt HXB.out)).trans HXB.out)
        replace HB := Aside0.mk (HB.out.trans (hb.mono HB.out.size))
        clear ho hb
        refine hK_.out _ _ HXB.out (fun hHeld => ?_)
        clear hK_ Kq_
        refine norm_ (a' := ?_) ?_ ?_
        rotate_left
        · show Act.put _ (some 35) _ = _
          simp only [Act.put, List.setIfInBounds_toArray, List.set_cons_zero, List.set_cons_succ]
          rfl
        refine one_ (i := 6) (N := some 36) #[true, true, true, true, true, true, true, true, true, true, true, false, false, true, true, true, true, false, false, false] rfl rfl (one_of HT_.out (by kernel_rfl)) (by decide) (fun Kq_ hK_ => ?_)
        refine appB_step w.heap.size (by rfl) (.tmp 30) (.tmp 35) rfl rfl _ (y1) (put (x.br) 1) P35 1 k35 rfl rfl HACC.out (own_rd HP35.out) HB.out HB.out.size (by (try simp only [List.length_append, put_len]); omega) ?_
        intro v36 w9 ho hb hg hat
        replace HXB := Aside0.mk (blk_grown HXB.out hg (Kd.R_ne HACC.out HXB.out (by decide)))
        clear HACC
        have HACC := Aside0.mk ho
        clear HB
        have HB := Aside0.mk hb
        clear ho hb hg hat
        refine hK_.out _ _ HXB.out (fun hHeld => ?_)
        clear hK_ Kq_
        refine norm_ (a' := ?_) ?_ ?_
        rotate_left
        · show Act.put _ (some 36) _ = _
          simp only [Act.put, List.setIfInBounds_toArray, List.set_cons_zero, List.set_cons_succ]
          rfl
        refine one_ (i := 11) (N := some 41) #[true, true, true, true, true, true, true, true, true, true, true, true, false, true, true, true, true, false, false, false] rfl rfl (one_of HT_.out (by kernel_rfl)) (by decide) (fun Kq_ hK_ => ?_)
        refine goes_ Try.func37 (by kernel_rfl) rfl #[.int .u64 (x.vol), .int .i64 1] (by rfl) rfl rfl (by (try simp only [List.map_toArray, List.map_cons, List.map_nil]); first | done | rfl) ?_
        with_reducible refine (refput_sl (x.vol) 1 1 rfl _ (by have := HN.out; omega) (by have := HN.out; omega) (by decide)).mono ?_
        rintro e w9 ⟨P41, k41, rfl, ho, hb⟩
        refine ⟨_, rfl, ?_⟩
        have HP41 := Aside0.mk (Kd.R_lower (Kd.R_new' ho (Kd.R_lt HACC.out)) HB.out.size)
        replace HACC := Aside0.mk (Kd.R_below HACC.out hb)
        replace HXB := Aside0.mk ((hb.block _ (blk_lt HXB.out)).trans HXB.out)
        replace HB := Aside0.mk (HB.out.trans (hb.mono HB.out.size))
        clear ho hb
        refine hK_.out _ _ HXB.out (fun hHeld => ?_)
        clear hK_ Kq_
        refine norm_ (a' := ?_) ?_ ?_
        rotate_left
        · show Act.put _ (some 41) _ = _
          simp only [Act.put, List.setIfInBounds_toArray, List.set_cons_zero, List.set_cons_succ]
          rfl
        refine one_ (i := 12) (N := some 42) #[true, true, true, true, true, true, true, true, true, true, true, true, true, true, true, true, true, false, false, false] rfl rfl (one_of HT_.out (by kernel_rfl)) (by decide) (fun Kq_ hK_ => ?_)
        refine appB_step w.heap.size (by rfl) (.tmp 36) (.tmp 41) rfl rfl _ ((y1 ++ put (x.br) 1)) (put (x.vol) 1) P41 1 k41 rfl rfl HACC.out (own_rd HP41.out) HB.out HB.out.size (by (try simp only [List.length_append, put_len]); omega) ?_
        intro v42 w9 ho hb hg hat
        replace HXB := Aside0.mk (blk_grown HXB.out hg (Kd.R_ne HACC.out HXB.out (by decide)))
        clear HACC
        have HACC := Aside0.mk ho
        clear HB
        have HB := Aside0.mk hb
        clear ho hb hg hat
        refine hK_.out _ _ HXB.out (fun hHeld => ?_)
        clear hK_ Kq_
        refine norm_ (a' := ?_) ?_ ?_
        rotate_left
        · show Act.put _ (some 42) _ = _
          simp only [Act.put, List.setIfInBounds_toArray, List.set_cons_zero, List.set_cons_succ]
          rfl
        refine one_ (i := 17) (N := some 47) #[true, true, true, true, true, true, true, true, true, true, true, true, true, true, true, true, true, true, false, false] rfl rfl (one_of HT_.out (by kernel_rfl)) (by decide) (fun Kq_ hK_ => ?_)
        refine goes_ Try.func37 (by kernel_rfl) rfl #[.int .u64 (x.blk), .int .i64 2] (by rfl) rfl rfl (by (try simp only [List.map_toArray, List.map_cons, List.map_nil]); first | done | rfl) ?_
        with_reducible refine (refput_sl (x.blk) 2 2 rfl _ (by have := HN.out; omega) (by have := HN.out; omega) (by decide)).mono ?_
        rintro e w9 ⟨P47, k47, rfl, ho, hb⟩
        refine ⟨_, rfl, ?_⟩
        have HP47 := Aside0.mk (Kd.R_lower (Kd.R_new' ho (Kd.R_lt HACC.out)) HB.out.size)
        replace HACC := Aside0.mk (Kd.R_below HACC.out hb)
        replace HXB := Aside0.mk ((hb.block _ (blk_lt HXB.out)).trans HXB.out)
        replace HB := Aside0.mk (HB.out.trans (hb.mono HB.out.size))
        clear ho hb
        refine hK_.out _ _ HXB.out (fun hHeld => ?_)
        clear hK_ Kq_
        refine norm_ (a' := ?_) ?_ ?_
        rotate_left
        · show Act.put _ (some 47) _ = _
          simp only [Act.put, List.setIfInBounds_toArray, List.set_cons_zero, List.set_cons_succ]
          rfl
        refine one_ (i := 18) (N := some 48) #[true, true, true, true, true, true, true, true, true, true, true, true, true, true, true, true, true, true, true, false] rfl rfl (one_of HT_.out (by kernel_rfl)) (by decide) (fun Kq_ hK_ => ?_)
        refine appB_step w.heap.size (by rfl) (.tmp 42) (.tmp 47) rfl rfl _ (((y1 ++ put (x.br) 1) ++ put (x.vol) 1)) (put (x.blk) 2) P47 2 k47 rfl rfl HACC.out (own_rd HP47.out) HB.out HB.out.size (by (try simp only [List.length_append, put_len]); omega) ?_
        intro v48 w9 ho hb hg hat
        replace HXB := Aside0.mk (blk_grown HXB.out hg (Kd.R_ne HACC.out HXB.out (by decide)))
        clear HACC
        have HACC := Aside0.mk ho
        clear HB
        have HB := Aside0.mk hb
        clear ho hb hg hat
        refine hK_.out _ _ HXB.out (fun hHeld => ?_)
        clear hK_ Kq_
        refine norm_ (a' := ?_) ?_ ?_
        rotate_left
        · show Act.put _ (some 48) _ = _
          simp only [Act.put, List.setIfInBounds_toArray, List.set_cons_zero, List.set_cons_succ]
          rfl
        refine pure_ (i := 19) (N := some 3) (v := ?_) (a' := ?_) #[true, true, true, true, true, true, true, true, true, true, true, true, true, true, true, true, true, true, true, true] rfl rfl (any_of HT_.out (by kernel_rfl)) (fun _ _ _ h => h) (Or.inl ⟨by rfl, ?_⟩) ?_ ?_
        rotate_left
        · intro w'
          go_simp
          with_reducible rfl
        rotate_left
        · simp only [Act.put, List.setIfInBounds_toArray, List.set_cons_zero, List.set_cons_succ]
          rfl
        refine done_ (done_of HT_.out (by kernel_rfl)) ?_
        clear HT_ hHeld
        go_wp2
        go_meet
        case rel => exact ⟨⟨by simpa using HACC.out⟩, HXB, HB⟩
    case rest =>
      obtain ⟨HACC, HXB, HB⟩ := hcut
      obtain ⟨y2, hy2⟩ : ∃ y, y = y1 ++ (if bP then (put x.br 1 ++ (put x.vol 1 ++ put x.blk 2)) else []) := ⟨_, rfl⟩
      rw [← hy2] at HACC
      have hyl2 : y2.length ≤ 40 := by rw [hy2]; simp only [List.length_append, put_len]; split <;> simp only [List.length_append, put_len, List.length_nil] <;> omega
      have HY2 := Aside0.mk hy2
      clear hy2
      obtain ⟨W3, hW3⟩ : ∃ W : World, W = wc := ⟨_, rfl⟩
      rw [← hW3] at HACC HXB HB ⊢
      clear hW3
      go_upto_if 49 with (fail)
      go_cut [3] from 50 to 54 (fun v wx => Aside0 (OwB wx w.heap.size v (y2 ++ (if bR then put x.ref 2 else []))) ∧ Aside0 (wx.heap[w.heap.size]? = some (.cells (celA x A c) 30 (0, 0))) ∧ Aside0 (Below w.heap.size w wx))
      case first =>
        cases bR with
        | false =>
          go_wp2
          go_meet
          case rel => exact ⟨⟨by simpa using HACC.out⟩, HXB, HB⟩
        | true =>
          have hx := HXB.out
          obtain ⟨c0, c1, c2, c3, c4, c5, c6, c7, c8, c9⟩ := cel_at (x := x) (A := A) (c := c) hx; have c10 : W3.cell? ⟨w.heap.size, 10, none⟩ = some (.slice A x.body.length c) := blk_cell hx 10
          clear hx
          go_wp2_with (first | (go_at_call 37; go_must (refine (refput_sl x.ref 2 2 rfl _ (by have := HN.out; omega) (by have := HN.out; omega) (by decide)).mono ?_; rintro e w9 ⟨P53, k53, rfl, ho, hb⟩; have HP53 := Aside0.mk ho; replace HACC := Aside0.mk (Kd.R_below HACC.out hb); replace HXB := Aside0.mk ((hb.block _ (blk_lt HXB.out)).trans HXB.out); replace HB := Aside0.mk (HB.out.trans (hb.mono HB.out.size)); clear ho hb)) | ((with_reducible refine gate_dst (N := 54) rfl ?_); go_must (refine appB w.heap.size rfl (.tmp 50) (.tmp 53) rfl rfl _ y2 (put x.ref 2) P53 2 k53 rfl rfl HACC.out (own_rd HP53.out) HB.out HB.out.size (by omega) ?_; intro v54 w10 ho hb hg hat; replace HXB := Aside0.mk (blk_grown HXB.out hg (Kd.R_ne HACC.out HXB.out (by decide))); clear HACC HB; have HACC := Aside0.mk ho; have HB := Aside0.mk hb; clear ho hb hg hat)))
          go_meet
          case rel => exact ⟨⟨by simpa using HACC.out⟩, HXB, HB⟩
      case rest =>
        obtain ⟨HACC, HXB, HB⟩ := hcut
        obtain ⟨y3, hy3⟩ : ∃ y, y = y2 ++ (if bR then put x.ref 2 else []) := ⟨_, rfl⟩
        rw [← hy3] at HACC
        have hyl3 : y3.length ≤ 60 := by rw [hy3]; simp only [List.length_append, put_len]; split <;> simp only [List.length_append, put_len, List.length_nil] <;> omega
        have HY3 := Aside0.mk hy3
        clear hy3
        obtain ⟨W4, hW4⟩ : ∃ W : World, W = wc := ⟨_, rfl⟩
        rw [← hW4] at HACC HXB HB ⊢
        clear hW4
        go_upto_if 55 with (fail)
        go_cut [3] from 56 to 71 (fun v wx => Aside0 (OwB wx w.heap.size v (y3 ++ (if bM then (put x.fr 4 ++ (put x.to 4 ++ put x.un 4)) else []))) ∧ Aside0 (wx.heap[w.heap.size]? = some (.cells (celA x A c) 30 (0, 0))) ∧ Aside0 (Below w.heap.size w wx))
        case first =>
          cases bM with
          | false =>
            go_wp2
            go_meet
            case rel => exact ⟨⟨by simpa using HACC.out⟩, HXB, HB⟩
          | true =>
            go_wp2_with (fail)
            refine start_ (n := 17) (S := fun w' => w'.heap[w.heap.size]? = some (.cells (celA x A c) 30 (0, 0))) (ds := []) #[false, false, false, false, false, false, false, false, false, false, false, false, false, false, false, false, false] (by kernel_rfl) rfl rfl (show W4.drew.heap[w.heap.size]? = _ from HXB.out) (fun hHeld => ?_); refine with_tab tabE8_ok (fun HT_ => ?_)
            have hb : Below W4.heap.size W4 W4.drew := below_drew (Below.refl _ _)
            replace HXB := Aside0.mk ((hb.block _ (blk_lt HXB.out)).trans HXB.out)
            replace HACC := Aside0.mk (Kd.R_below HACC.out hb)
            replace HB := Aside0.mk (HB.out.trans (hb.mono HB.out.size))
            clear hb
            refine pure_ (i := 0) (N := some 56) (v := ?_) (a' := ?_) #[true, false, false, false, false, false, false, false, false, false, false, false, false, false, false, false, false] rfl rfl (any_of HT_.out (by kernel_rfl)) (fun _ _ _ h => h) (Or.inl ⟨by rfl, ?_⟩) ?_ ?_
            rotate_left
            · intro w'
              go_simp
              with_reducible rfl
            rotate_left
            · simp only [Act.put, List.setIfInBounds_toArray, List.set_cons_zero, List.set_cons_succ]
              rfl
            refine pure_ (i := 1) (N := some 57) (v := ?_) (a' := ?_) #[true, true, false, false, false, false, false, false, false, false, false, false, false, false, false, false, false] rfl rfl (any_of HT_.out (by kernel_rfl)) (fun _ _ _ h => h) (Or.inl ⟨by rfl, ?_⟩) ?_ ?_
            rotate_left
            · intro w'
              go_simp
              with_reducible rfl
            rotate_left
            · simp only [Act.put, List.setIfInBounds_toArray, List.set_cons_zero, List.set_cons_succ]
              rfl
            refine take_ (i := 2) (N := some 58) (v := ?_) (a' := ?_) #[true, true, true, false, false, false, false, false, false, false, false, false, false, false, false, false, false] rfl rfl (take_of HT_.out (by kernel_rfl)) (fun _ _ _ h => h) (Or.inl ⟨by rfl, ?_⟩) hHeld ?_ ?_
            rotate_left
            · intro w' hw'
              obtain ⟨c0, c1, c2, c3, c4, c5, c6, c7, c8, c9⟩ := cel_at (x := x) (A := A) (c := c) hw'; have c10 : w'.cell? ⟨w.heap.size, 10, none⟩ = some (.slice A x.body.length c) := blk_cell hw' 10
              go_simp
              with_reducible rfl
            rotate_left
            · simp only [Act.put, List.setIfInBounds_toArray, List.set_cons_zero, List.set_cons_succ]
              rfl
            refine pure_ (i := 3) (N := some 59) (v := ?_) (a' := ?_) #[true, true, true, true, false, false, false, false, false, false, false, false, false, false, false, false, false] rfl rfl (any_of HT_.out (by kernel_rfl)) (fun _ _ _ h => h) (Or.inl ⟨by rfl, ?_⟩) ?_ ?_
            rotate_left
            · intro w'
              go_simp
              with_reducible rfl
            rotate_left
            · simp only [Act.put, List.setIfInBounds_toArray, List.set_cons_zero, List.set_cons_succ]
              rfl
            refine pure_ (i := 6) (N := some 62) (v := ?_) (a' := ?_) #[true, true, true, true, false, false, true, false, false, false, false, false, false, false, false, false, false] rfl rfl (any_of HT_.out (by kernel_rfl)) (fun _ _ _ h => h) (Or.inl ⟨by rfl, ?_⟩) ?_ ?_
            rotate_left
            · intro w'
              go_simp
              with_reducible rfl
            rotate_left
            · simp only [Act.put, List.setIfInBounds_toArray, List.set_cons_zero, List.set_cons_succ]
              rfl
            refine take_ (i := 7) (N := some 63) (v := ?_) (a' := ?_) #[true, true, true, true, false, false, true, true, false, false, false, false, false, false, false, false, false] rfl rfl (take_of HT_.out (by kernel_rfl)) (fun _ _ _ h => h) (Or.inl ⟨by rfl, ?_⟩) hHeld ?_ ?_
            rotate_left
            · intro w' hw'
              obtain ⟨c0, c1, c2, c3, c4, c5, c6, c7, c8, c9⟩ := cel_at (x := x) (A := A) (c := c) hw'; have c10 : w'.cell? ⟨w.heap.size, 10, none⟩ = some (.slice A x.body.length c) := blk_cell hw' 10
              go_simp
              with_reducible rfl
            rotate_left
            · simp only [Act.put, List.setIfInBounds_toArray, List.set_cons_zero, List.set_cons_succ]
              rfl
            refine pure_ (i := 8) (N := some 64) (v := ?_) (a' := ?_) #[true, true, true, true, false, false, true, true, true, false, false, false, false, false, false, false, false] rfl rfl (any_of HT_.out (by kernel_rfl)) (fun _ _ _ h => h) (Or.inl ⟨by rfl, ?_⟩) ?_ ?_
            rotate_left
            · intro w'
              go_simp
              with_reducible rfl
            rotate_left
            · simp only [Act.put, List.setIfInBounds_toArray, List.set_cons_zero, List.set_cons_succ]
              rfl
            refine pure_ (i := 11) (N := some 67) (v := ?_) (a' := ?_) #[true, true, true, true, false, false, true, true, true, false, false, true, false, false, false, false, false] rfl rfl (any_of HT_.out (by kernel_rfl)) (fun _ _ _ h => h) (Or.inl ⟨by rfl, ?_⟩) ?_ ?_
            rotate_left
            · intro w'
              go_simp
              with_reducible rfl
            rotate_left
            · simp only [Act.put, List.setIfInBounds_toArray, List.set_cons_zero, List.set_cons_succ]
              rfl
            refine take_ (i := 12) (N := some 68) (v := ?_) (a' := ?_) #[true, true, true, true, false, false, true, true, true, false, false, true, true, false, false, false, false] rfl rfl (take_of HT_.out (by kernel_rfl)) (fun _ _ _ h => h) (Or.inl ⟨by rfl, ?_⟩) hHeld ?_ ?_
            rotate_left
            · intro w' hw'
              obtain ⟨c0, c1, c2, c3, c4, c5, c6, c7, c8, c9⟩ := cel_at (x := x) (A := A) (c := c) hw'; have c10 : w'.cell? ⟨w.heap.size, 10, none⟩ = some (.slice A x.body.length c) := blk_cell hw' 10
              go_simp
              with_reducible rfl
            rotate_left
            · simp only [Act.put, List.setIfInBounds_toArray, List.set_cons_zero, List.set_cons_succ]
              rfl
            refine pure_ (i := 13) (N := some 69) (v := ?_) (a' := ?_) #[true, true, true, true, false, false, true, true, true, false, false, true, true, true, false, false, false] rfl rfl (any_of HT_.out (by kernel_rfl)) (fun _ _ _ h => h) (Or.inl ⟨by rfl, ?_⟩) ?_ ?_
            rotate_left
            · intro w'
              go_simp
              with_reducible rfl
            rotate_left
            · simp only [Act.put, List.setIfInBounds_toArray, List.set_cons_zero, List.set_cons_succ]
              rfl
            refine one_ (i := 4) (N := some 60) #[true, true, true, true, true, false, true, true, true, false, false, true, true, true, false, false, false] rfl rfl (one_of HT_.out (by kernel_rfl)) (by decide) (fun Kq_ hK_ => ?_)
            refine goes_ Try.func37 (by kernel_rfl) rfl #[.int .u64 (x.fr), .int .i64 4] (by rfl) rfl rfl (by (try simp only [List.map_toArray, List.map_cons, List.map_nil]); first | done | rfl) ?_
            with_reducible refine (refput_sl (x.fr) 4 4 rfl _ (by have := HN.out; omega) (by have := HN.out; omega) (by decide)).mono ?_
            rintro e w9 ⟨P60, k60, rfl, ho, hb⟩
            refine ⟨_, rfl, ?_⟩
            have HP60 := Aside0.mk (Kd.R_lower (Kd.R_new' ho (Kd.R_lt HACC.out)) HB.out.size)
            replace HACC := Aside0.mk (Kd.R_below HACC.out hb)
            replace HXB := Aside0.mk ((hb.block _ (blk_lt HXB.out)).trans HXB.out)
            replace HB := Aside0.mk (HB.out.trans (hb.mono HB.out.size))
            clear ho hb
            refine hK_.out _ _ HXB.out (fun hHeld => ?_)
            clear hK_ Kq_
            refine norm_ (a' := ?_) ?_ ?_
            rotate_left
            · show Act.put _ (some 60) _ = _
              simp only [Act.put, List.setIfInBounds_toArray, List.set_cons_zero, List.set_cons_succ]
              rfl
            refine one_ (i := 5) (N := some 61) #[true, true, true, true, true, true, true, true, true, false, false, true, true, true, false, false, false] rfl rfl (one_of HT_.out (by kernel_rfl)) (by decide) (fun Kq_ hK_ => ?_)
            refine appB_step w.heap.size (by rfl) (.tmp 56) (.tmp 60) rfl rfl _ (y3) (put (x.fr) 4) P60 4 k60 rfl rfl HACC.out (own_rd HP60.out) HB.out HB.out.size (by (try simp only [List.length_append, put_len]); omega) ?_
            intro v61 w9 ho hb hg hat
            replace HXB := Aside0.mk (blk_grown HXB.out hg (Kd.R_ne HACC.out HXB.out (by decide)))
            clear HACC
            have HACC := Aside0.mk ho
            clear HB
            have HB := Aside0.mk hb
            clear ho hb hg hat
            refine hK_.out _ _ HXB.out (fun hHeld => ?_)
            clear hK_ Kq_
            refine norm_ (a' := ?_) ?_ ?_
            rotate_left
            · show Act.put _ (some 61) _ = _
              simp only [Act.put, List.setIfInBounds_toArray, List.set_cons_zero, List.set_cons_succ]
              rfl
            refine one_ (i := 9) (N := some 65) #[true, true, true, true, true, true, true, true, true, true, false, true, true, true, false, false, false] rfl rfl (one_of HT_.out (by kernel_rfl)) (by decide) (fun Kq_ hK_ => ?_)
            refine goes_ Try.func37 (by kernel_rfl) rfl #[.int .u64 (x.to), .int .i64 4] (by rfl) rfl rfl (by (try simp only [List.map_toArray, List.map_cons, List.map_nil]); first | done | rfl) ?_
            with_reducible refine (refput_sl (x.to) 4 4 rfl _ (by have := HN.out; omega) (by have := HN.out; omega) (by decide)).mono ?_
            rintro e w9 ⟨P65, k65, rfl, ho, hb⟩
            refine ⟨_, rfl, ?_⟩
            have HP65 := Aside0.mk (Kd.R_lower (Kd.R_new' ho (Kd.R_lt HACC.out)) HB.out.size)
            replace HACC := Aside0.mk (Kd.R_below HACC.out hb)
            replace HXB := Aside0.mk ((hb.block _ (blk_lt HXB.out)).trans HXB.out)
            replace HB := Aside0.mk (HB.out.trans (hb.mono HB.out.size))
            clear ho hb
            refine hK_.out _ _ HXB.out (fun hHeld => ?_)
            clear hK_ Kq_
            refine norm_ (a' := ?_) ?_ ?_
            rotate_left
            · show Act.put _ (some 65) _ = _
              simp only [Act.put, List.setIfInBounds_toArray, List.set_cons_zero, List.set_cons_succ]
              rfl
            refine one_ (i := 10) (N := some 66) #[true, true, true, true, true, true, true, true, true, true, true, true, true, true, false, false, false] rfl rfl (one_of HT_.out (by kernel_rfl)) (by decide) (fun Kq_ hK_ => ?_)
            refine appB_step w.heap.size (by rfl) (.tmp 61) (.tmp 65) rfl rfl _ ((y3 ++ put (x.fr) 4)) (put (x.to) 4) P65 4 k65 rfl rfl HACC.out (own_rd HP65.out) HB.out HB.out.size (by (try simp only [List.length_append, put_len]); omega) ?_
            intro v66 w9 ho hb hg hat
            replace HXB := Aside0.mk (blk_grown HXB.out hg (Kd.R_ne HACC.out HXB.out (by decide)))
            clear HACC
            have HACC := Aside0.mk ho
            clear HB
            have HB := Aside0.mk hb
            clear ho hb hg hat
            refine hK_.out _ _ HXB.out (fun hHeld => ?_)
            clear hK_ Kq_
            refine norm_ (a' := ?_) ?_ ?_
            rotate_left
            · show Act.put _ (some 66) _ = _
              simp only [Act.put, List.setIfInBounds_toArray, List.set_cons_zero, List.set_cons_succ]
              rfl
            refine one_ (i := 14) (N := some 70) #[true, true, true, true, true, true, true, true, true, true, true, true, true, true, true, false, false] rfl rfl (one_of HT_.out (by kernel_rfl)) (by decide) (fun Kq_ hK_ => ?_)
            refine goes_ Try.func37 (by kernel_rfl) rfl #[.int .u64 (x.un), .int .i64 4] (by rfl) rfl rfl (by (try simp only [List.map_toArray, List.map_cons, List.map_nil]); first | done | rfl) ?_
            with_reducible refine (refput_sl (x.un) 4 4 rfl _ (by have := HN.out; omega) (by have := HN.out; omega) (by decide)).mono ?_
            rintro e w9 ⟨P70, k70, rfl, ho, hb⟩
            refine ⟨_, rfl, ?_⟩
            have HP70 := Aside0.mk (Kd.R_lower (Kd.R_new' ho (Kd.R_lt HACC.out)) HB.out.size)
            replace HACC := Aside0.mk (Kd.R_below HACC.out hb)
            replace HXB := Aside0.mk ((hb.block _ (blk_lt HXB.out)).trans HXB.out)
            replace HB := Aside0.mk (HB.out.trans (hb.mono HB.out.size))
            clear ho hb
            refine hK_.out _ _ HXB.out (fun hHeld => ?_)
            clear hK_ Kq_
            refine norm_ (a' := ?_) ?_ ?_
            rotate_left
            · show Act.put _ (some 70) _ = _
              simp only [Act.put, List.setIfInBounds_toArray, List.set_cons_zero, List.set_cons_succ]
              rfl
            refine one_ (i := 15) (N := some 71) #[true, true, true, true, true, true, true, true, true, true, true, true, true, true, true, true, false] rfl rfl (one_of HT_.out (by kernel_rfl)) (by decide) (fun Kq_ hK_ => ?_)
            refine appB_step w.heap.size (by rfl) (.tmp 66) (.tmp 70) rfl rfl _ (((y3 ++ put (x.fr) 4) ++ put (x.to) 4)) (put (x.un) 4) P70 4 k70 rfl rfl HACC.out (own_rd HP70.out) HB.out HB.out.size (by (try simp only [List.length_append, put_len]); omega) ?_
            intro v71 w9 ho hb hg hat
            replace HXB := Aside0.mk (blk_grown HXB.out hg (Kd.R_ne HACC.out HXB.out (by decide)))
            clear HACC
            have HACC := Aside0.mk ho
            clear HB
            have HB := Aside0.mk hb
            clear ho hb hg hat
            refine hK_.out _ _ HXB.out (fun hHeld => ?_)
            clear hK_ Kq_
            refine norm_ (a' := ?_) ?_ ?_
            rotate_left
            · show Act.put _ (some 71) _ = _
              simp only [Act.put, List.setIfInBounds_toArray, List.set_cons_zero, List.set_cons_succ]
              rfl
            refine pure_ (i := 16) (N := some 3) (v := ?_) (a' := ?_) #[true, true, true, true, true, true, true, true, true, true, true, true, true, true, true, true, true] rfl rfl (any_of HT_.out (by kernel_rfl)) (fun _ _ _ h => h) (Or.inl ⟨by rfl, ?_⟩) ?_ ?_
            rotate_left
            · intro w'
              go_simp
              with_reducible rfl
            rotate_left
            · simp only [Act.put, List.setIfInBounds_toArray, List.set_cons_zero, List.set_cons_succ]
              rfl
            refine done_ (done_of HT_.out (by kernel_rfl)) ?_
            clear HT_ hHeld
            go_wp2
            go_meet
            case rel => exact ⟨⟨by simpa using HACC.out⟩, HXB, HB⟩
        case rest =>
          obtain ⟨HACC, HXB, HB⟩ := hcut
          obtain ⟨y4, hy4⟩ : ∃ y, y = y3 ++ (if bM then (put x.fr 4 ++ (put x.to 4 ++ put x.un 4)) else []) := ⟨_, rfl⟩
          rw [← hy4] at HACC
          have hyl4 : y4.length ≤ 80 := by rw [hy4]; simp only [List.length_append, put_len]; split <;> simp only [List.length_append, put_len, List.length_nil] <;> omega
          have HY4 := Aside0.mk hy4
          clear hy4
          obtain ⟨W5, hW5⟩ : ∃ W : World, W = wc := ⟨_, rfl⟩
          rw [← hW5] at HACC HXB HB ⊢
          clear hW5
          go_upto_if 72 with (fail)
          go_cut [3] from 73 to 82 (fun v wx => Aside0 (OwB wx w.heap.size v (y4 ++ (if bB then (put x.body.length 1 ++ x.body) else []))) ∧ Aside0 (wx.heap[w.heap.size]? = some (.cells (celA x A c) 30 (0, 0))) ∧ Aside0 (Below w.heap.size w wx))
          case first =>
            cases bB with
            | false =>
              go_wp2
              go_meet
              case rel => exact ⟨⟨by simpa using HACC.out⟩, HXB, HB⟩
            | true =>
              go_wp2_with (fail)
              refine start_ (n := 11) (S := fun w' => w'.heap[w.heap.size]? = some (.cells (celA x A c) 30 (0, 0))) (ds := []) #[false, false, false, false, false, false, false, false, false, false, false] (by kernel_rfl) rfl rfl (show W5.drew.heap[w.heap.size]? = _ from HXB.out) (fun hHeld => ?_); refine with_tab tabE10_ok (fun HT_ => ?_)
              have hb : Below W5.heap.size W5 W5.drew := below_drew (Below.refl _ _)
              replace HXB := Aside0.mk ((hb.block _ (blk_lt HXB.out)).trans HXB.out)
              replace HACC := Aside0.mk (Kd.R_below HACC.out hb)
              replace HB := Aside0.mk (HB.out.trans (hb.mono HB.out.size))
              clear hb
              refine pure_ (i := 0) (N := some 73) (v := ?_) (a' := ?_) #[true, false, false, false, false, false, false, false, false, false, false] rfl rfl (any_of HT_.out (by kernel_rfl)) (fun _ _ _ h => h) (Or.inl ⟨by rfl, ?_⟩) ?_ ?_
              rotate_left
              · intro w'
                go_simp
                with_reducible rfl
              rotate_left
              · simp only [Act.put, List.setIfInBounds_toArray, List.set_cons_zero, List.set_cons_succ]
                rfl
              refine pure_ (i := 1) (N := some 74) (v := ?_) (a' := ?_) #[true, true, false, false, false, false, false, false, false, false, false] rfl rfl (any_of HT_.out (by kernel_rfl)) (fun _ _ _ h => h) (Or.inl ⟨by rfl, ?_⟩) ?_ ?_
              rotate_left
              · intro w'
                go_simp
                with_reducible rfl
              rotate_left
              · simp only [Act.put, List.setIfInBounds_toArray, List.set_cons_zero, List.set_cons_succ]
                rfl
              refine take_ (i := 2) (N := some 75) (v := ?_) (a' := ?_) #[true, true, true, false, false, false, false, false, false, false, false] rfl rfl (take_of HT_.out (by kernel_rfl)) (fun _ _ _ h => h) (Or.inl ⟨by rfl, ?_⟩) hHeld ?_ ?_
              rotate_left
              · intro w' hw'
                obtain ⟨c0, c1, c2, c3, c4, c5, c6, c7, c8, c9⟩ := cel_at (x := x) (A := A) (c := c) hw'; have c10 : w'.cell? ⟨w.heap.size, 10, none⟩ = some (.slice A x.body.length c) := blk_cell hw' 10
                go_simp
                with_reducible rfl
              rotate_left
              · simp only [Act.put, List.setIfInBounds_toArray, List.set_cons_zero, List.set_cons_succ]
                rfl
              refine pure_ (i := 3) (N := some 76) (v := ?_) (a' := ?_) #[true, true, true, true, false, false, false, false, false, false, false] rfl rfl (any_of HT_.out (by kernel_rfl)) (fun _ _ _ h => h) (Or.inl ⟨by rfl, ?_⟩) ?_ ?_
              rotate_left
              · intro w'
                go_simp
                with_reducible rfl
              rotate_left
              · simp only [Act.put, List.setIfInBounds_toArray, List.set_cons_zero, List.set_cons_succ]
                rfl
              refine pure_ (i := 4) (N := some 77) (v := ?_) (a' := ?_) #[true, true, true, true, true, false, false, false, false, false, false] rfl rfl (any_of HT_.out (by kernel_rfl)) (fun _ _ _ h => h) (Or.inl ⟨by rfl, ?_⟩) ?_ ?_
              rotate_left
              · intro w'
                go_simp
                with_reducible rfl
              rotate_left
              · simp only [Act.put, List.setIfInBounds_toArray, List.set_cons_zero, List.set_cons_succ]
                rfl
              refine pure_ (i := 7) (N := some 80) (v := ?_) (a' := ?_) #[true, true, true, true, true, false, false, true, false, false, false] rfl rfl (any_of HT_.out (by kernel_rfl)) (fun _ _ _ h => h) (Or.inl ⟨by rfl, ?_⟩) ?_ ?_
              rotate_left
              · intro w'
                go_simp
                with_reducible rfl
              rotate_left
              · simp only [Act.put, List.setIfInBounds_toArray, List.set_cons_zero, List.set_cons_succ]
                rfl
              refine take_ (i := 8) (N := some 81) (v := ?_) (a' := ?_) #[true, true, true, true, true, false, false, true, true, false, false] rfl rfl (take_of HT_.out (by kernel_rfl)) (fun _ _ _ h => h) (Or.inl ⟨by rfl, ?_⟩) hHeld ?_ ?_
              rotate_left
              · intro w' hw'
                obtain ⟨c0, c1, c2, c3, c4, c5, c6, c7, c8, c9⟩ := cel_at (x := x) (A := A) (c := c) hw'; have c10 : w'.cell? ⟨w.heap.size, 10, none⟩ = some (.slice A x.body.length c) := blk_cell hw' 10
                go_simp
                with_reducible rfl
              rotate_left
              · simp only [Act.put, List.setIfInBounds_toArray, List.set_cons_zero, List.set_cons_succ]
                rfl
              refine one_ (i := 5) (N := some 78) #[true, true, true, true, true, true, false, true, true, false, false] rfl rfl (one_of HT_.out (by kernel_rfl)) (by decide) (fun Kq_ hK_ => ?_)
              refine litB_step w.heap.size (by rfl) (N := 78) rfl [(x.body.length : Int)] ?hr HB.out HB.out.size (by simp) ?_
              (case hr => first | (go_simp; done) | (go_simp; rfl))
              intro v78 w9 ho hb0 hn hb
              have HP78 := Aside0.mk ho
              replace HACC := Aside0.mk (Kd.R_below HACC.out hb)
              replace HXB := Aside0.mk ((hb.block _ (blk_lt HXB.out)).trans HXB.out)
              clear HB
              have HB := Aside0.mk hb0
              obtain ⟨P78, k78, rfl⟩ := Kd.R_slice ho
              clear ho hb0 hn hb
              refine hK_.out _ _ HXB.out (fun hHeld => ?_)
              clear hK_ Kq_
              refine norm_ (a' := ?_) ?_ ?_
              rotate_left
              · show Act.put _ (some 78) _ = _
                simp only [Act.put, List.setIfInBounds_toArray, List.set_cons_zero, List.set_cons_succ]
                rfl
              refine one_ (i := 6) (N := some 79) #[true, true, true, true, true, true, true, true, true, false, false] rfl rfl (one_of HT_.out (by kernel_rfl)) (by decide) (fun Kq_ hK_ => ?_)
              refine appB_step w.heap.size (by rfl) (.tmp 73) (.tmp 78) rfl rfl _ y4 [(x.body.length : Int)] P78 1 k78 rfl rfl HACC.out (own_rd HP78.out) HB.out HB.out.size (by omega) ?_
              intro v79 w9 ho hb hg hat
              replace HXB := Aside0.mk (blk_grown HXB.out hg (Kd.R_ne HACC.out HXB.out (by decide)))
              clear HACC HB
              have HACC := Aside0.mk ho
              have HB := Aside0.mk hb
              clear ho hb hg hat
              refine hK_.out _ _ HXB.out (fun hHeld => ?_)
              clear hK_ Kq_
              refine norm_ (a' := ?_) ?_ ?_
              rotate_left
              · show Act.put _ (some 79) _ = _
                simp only [Act.put, List.setIfInBounds_toArray, List.set_cons_zero, List.set_cons_succ]
                rfl
              refine one_ (i := 9) (N := some 82) #[true, true, true, true, true, true, true, true, true, true, false] rfl rfl (one_of HT_.out (by kernel_rfl)) (by decide) (fun Kq_ hK_ => ?_)
              refine appB_step w.heap.size (by rfl) (.tmp 79) (.tmp 81) rfl rfl _ (y4 ++ [(x.body.length : Int)]) x.body A x.body.length c rfl rfl HACC.out (Kd.C_below HR.out HB.out) HB.out HB.out.size (by simp only [List.length_append, List.length_singleton]; omega) ?_
              intro v82 w9 ho hb hg hat
              replace HXB := Aside0.mk (blk_grown HXB.out hg (Kd.R_ne HACC.out HXB.out (by decide)))
              clear HACC HB
              have HACC := Aside0.mk ho
              have HB := Aside0.mk hb
              clear ho hb hg hat
              refine hK_.out _ _ HXB.out (fun hHeld => ?_)
              clear hK_ Kq_
              refine norm_ (a' := ?_) ?_ ?_
              rotate_left
              · show Act.put _ (some 82) _ = _
                simp only [Act.put, List.setIfInBounds_toArray, List.set_cons_zero, List.set_cons_succ]
                rfl
              refine pure_ (i := 10) (N := some 3) (v := ?_) (a' := ?_) #[true, true, true, true, true, true, true, true, true, true, true] rfl rfl (any_of HT_.out (by kernel_rfl)) (fun _ _ _ h => h) (Or.inl ⟨by rfl, ?_⟩) ?_ ?_
              rotate_left
              · intro w'
                go_simp
                with_reducible rfl
              rotate_left
              · simp only [Act.put, List.setIfInBounds_toArray, List.set_cons_zero, List.set_cons_succ]
                rfl
              refine done_ (done_of HT_.out (by kernel_rfl)) ?_
              clear HT_ hHeld
              go_wp2
              go_meet
              case rel => exact ⟨⟨by rw [put_one _ (by omega) (by omega)]; simpa using HACC.out⟩, HXB, HB⟩
          case rest =>
            obtain ⟨HACC, HXB, HB⟩ := hcut
            go_wp2
            go_ret
            refine ⟨⟨_, rfl, ?_⟩, HB.out⟩
            have he : encS x = y4 ++ (if bB then (put x.body.length 1 ++ x.body) else []) := by rw [HY4.out, HY3.out, HY2.out, HY1.out, HFL.out.1, HFL.out.2.1, HFL.out.2.2.1, HFL.out.2.2.2]; simp [encS]
            rw [he]
            exact HACC.out
end Go.Proofs.Ytghcnipehgjegaa.Cell
