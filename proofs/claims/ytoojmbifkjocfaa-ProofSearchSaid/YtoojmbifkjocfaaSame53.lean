/- What erewhileref53.Same answers of two founds that agree. Conditions stand in each statement. -/
import Derived.Test.YtoojmbifkjocfaaLk
import Derived.IntWalk
import Derived.Outline
import Derived.Deep.DeepMust
namespace Go.Proofs.Ytoojmbifkjocfaa.Proof
open Go.RowKit Go.Proofs.YtoojmbifkjocfaaW.PrintWords Go.Proofs.YtoojmbifkjocfaaW.PrintLast Go.Proofs.YtoojmbifkjocfaaW.PrintMore Go.Proofs.Ytoojmbifkjocfaa.Kit Go.Proofs.Ytoojmbifkjocfaa.Plain
set_option linter.unusedVariables false
set_option linter.unusedSimpArgs false
theorem blk_at (W : World) (k : Nat) (o : Obj) (h : k = W.heap.size) : (W.alloc o).heap[k]? = some o := h ▸ blk_new W o
def tabSm6 : Bool × List (List Nat × List Nat) := (true, [([], []), ([0], [0]), ([], []), ([1, 2], [1, 2]), ([3], [3]), ([], []), ([5], [5]), ([], []), ([6, 7], [6, 7]), ([8], [8]), ([4, 9], [4, 9])])
theorem tabSm6_ok : rtab .any (opsOf Try.f22 6) = tabSm6 := by kernel_rfl
set_option maxHeartbeats 1600000 in
set_option maxRecDepth 100000 in
theorem same53_any (m : Int) (o : Bool) (A A2 : Option Addr) (n n2 c c2 : Nat) (xs : List (Int × Bool)) (w : World) (h1 : Kd.C Lk w A n xs) (h2 : Kd.C Lk w A2 n2 xs) :
    Calls Try.prog 22 #[.agg #[.int .u64 m, .bool o, .slice A n c], .agg #[.int .u64 m, .bool o, .slice A2 n2 c2]] w fun e w' => e = .returned (.bool true) ∧ Below w.heap.size w w' := by
  obtain rfl := C_len h1
  obtain rfl := C_len h2
  have hm := C_max h1
  have H1 := Aside0.mk h1
  have H2 := Aside0.mk h2
  clear h1 h2
  go_enter Try.func22, Try.ntmps22
  go_wp2
  obtain ⟨W1, hW1⟩ : ∃ W1, W1 = (w.alloc (.cells #[.int .u64 m, .bool o, .slice A xs.length c] 32)).alloc (.cells #[.int .u64 m, .bool o, .slice A2 xs.length c2] 32) := ⟨_, rfl⟩
  rw [← hW1]
  have HB := Aside0.mk (show Below w.heap.size w W1 by rw [hW1]; exact below_alloc (below_alloc (Below.refl _ _) _) _)
  have HC := Aside0.mk (show W1.cell? ⟨w.heap.size, 2, none⟩ = some (.slice A xs.length c) by rw [hW1]; exact blk_cell (blk_alloc (blk_new w _) _) 2)
  have HC2 := Aside0.mk (show W1.cell? ⟨w.heap.size + 1, 2, none⟩ = some (.slice A2 xs.length c2) by rw [hW1]; exact blk_cell (blk_at _ _ _ (by simp)) 2)
  replace H1 := Aside0.mk (Kd.C_below H1.out HB.out)
  replace H2 := Aside0.mk (Kd.C_below H2.out HB.out)
  clear hW1
  go_loopg [5] xs.length (fun gk v9 w' => ∃ i : Nat, v9 = .int .i64 (i : Int) ∧ i + gk = xs.length ∧ Aside0 (Below W1.heap.size W1 w'))
  case atStart => exact ⟨0, rfl, by omega, ⟨Below.refl _ _⟩⟩
  case round =>
    obtain ⟨i, rfl, hig, HW⟩ := hrel
    have hc0 := pw_cell_below HW.out HC.out
    have hc02 := pw_cell_below HW.out HC2.out
    by_cases hgo : i < xs.length
    · obtain ⟨a1, rfl, hc1⟩ := C_flat H1.out (0, false) i hgo
      obtain ⟨a2, rfl, hc2⟩ := C_flat H2.out (0, false) i hgo
      obtain ⟨x, hx⟩ : ∃ x, x = xs.getD i (0, false) := ⟨_, rfl⟩
      obtain ⟨xm, xb⟩ := x
      rw [← hx] at hc1 hc2
      have hi0 : (0 : Int) ≤ (i : Int) := by omega
      have hi1 : (i : Int) < (xs.length : Int) := by omega
      have d10 := Aside0.mk (hc1 0 _ rfl)
      have d11 := Aside0.mk ((add_next a1 (i * 2)) ▸ hc1 1 _ rfl)
      have d20 := Aside0.mk (hc2 0 _ rfl)
      have d21 := Aside0.mk ((add_next a2 (i * 2)) ▸ hc2 1 _ rfl)
      clear hc1 hc2 hx
      go_wp2_with (fail)
      clear hc0 hc02
      refine start_ (n := 11) (S := fun w' => w'.cell? ⟨w.heap.size, 2, none⟩ = some (.slice (some a1) xs.length c) ∧ w'.cell? ⟨w.heap.size + 1, 2, none⟩ = some (.slice (some a2) xs.length c2) ∧ w'.cell? (a1.add (i * 2)) = some (.int .u64 xm) ∧ w'.cell? ⟨(a1.add (i * 2)).block, (a1.add (i * 2)).off + 1, none⟩ = some (.bool xb) ∧ w'.cell? (a2.add (i * 2)) = some (.int .u64 xm) ∧ w'.cell? ⟨(a2.add (i * 2)).block, (a2.add (i * 2)).off + 1, none⟩ = some (.bool xb)) (ds := []) #[false, false, false, false, false, false, false, false, false, false, false] (by kernel_rfl) rfl rfl ⟨pw_cell_below (below_drew HW.out) HC.out, pw_cell_below (below_drew HW.out) HC2.out, pw_cell_below (below_drew HW.out) d10.out, pw_cell_below (below_drew HW.out) d11.out, pw_cell_below (below_drew HW.out) d20.out, pw_cell_below (below_drew HW.out) d21.out⟩ (fun hHeld => ?_); refine with_tab tabSm6_ok (fun HT_ => ?_)
      have hb : Below wr.heap.size wr wr.drew := below_drew (Below.refl _ _)
      replace HW := Aside0.mk (HW.out.trans (hb.mono HW.out.size))
      clear hb
      refine pure_ (i := 0) (N := some 34) (v := ?_) (a' := ?_) #[true, false, false, false, false, false, false, false, false, false, false] rfl rfl (any_of HT_.out (by kernel_rfl)) (fun _ _ _ h => h) (Or.inl ⟨by rfl, ?_⟩) ?_ ?_
      rotate_left
      · intro w'
        go_simp
        with_reducible rfl
      rotate_left
      · simp only [Act.put, List.setIfInBounds_toArray, List.set_cons_zero, List.set_cons_succ]
        rfl
      refine take_ (i := 1) (N := some 35) (v := ?_) (a' := ?_) #[true, true, false, false, false, false, false, false, false, false, false] rfl rfl (take_of HT_.out (by kernel_rfl)) (fun _ _ _ h => h) (Or.inl ⟨by rfl, ?_⟩) hHeld ?_ ?_
      rotate_left
      · intro w' hw'
        obtain ⟨s0, s1, s2, s3, s4, s5⟩ := hw'
        go_simp
        with_reducible rfl
      rotate_left
      · simp only [Act.put, List.setIfInBounds_toArray, List.set_cons_zero, List.set_cons_succ]
        rfl
      refine pure_ (i := 2) (N := some 36) (v := ?_) (a' := ?_) #[true, true, true, false, false, false, false, false, false, false, false] rfl rfl (any_of HT_.out (by kernel_rfl)) (fun _ _ _ h => h) (Or.inl ⟨by rfl, ?_⟩) ?_ ?_
      rotate_left
      · intro w'
        go_simp
        with_reducible rfl
      rotate_left
      · simp only [Act.put, List.setIfInBounds_toArray, List.set_cons_zero, List.set_cons_succ]
        rfl
      refine pure_ (i := 3) (N := some 37) (v := ?_) (a' := ?_) #[true, true, true, true, false, false, false, false, false, false, false] rfl rfl (any_of HT_.out (by kernel_rfl)) (fun _ _ _ h => h) (Or.inl ⟨by rfl, ?_⟩) ?_ ?_
      rotate_left
      · intro w'
        go_simp
        with_reducible rfl
      rotate_left
      · simp only [Act.put, List.setIfInBounds_toArray, List.set_cons_zero, List.set_cons_succ]
        rfl
      refine take_ (i := 4) (N := some 38) (v := ?_) (a' := ?_) #[true, true, true, true, true, false, false, false, false, false, false] rfl rfl (take_of HT_.out (by kernel_rfl)) (fun _ _ _ h => h) (Or.inl ⟨by rfl, ?_⟩) hHeld ?_ ?_
      rotate_left
      · intro w' hw'
        obtain ⟨s0, s1, s2, s3, s4, s5⟩ := hw'
        go_simp
        with_reducible rfl
      rotate_left
      · simp only [Act.put, List.setIfInBounds_toArray, List.set_cons_zero, List.set_cons_succ]
        rfl
      refine pure_ (i := 5) (N := some 39) (v := ?_) (a' := ?_) #[true, true, true, true, true, true, false, false, false, false, false] rfl rfl (any_of HT_.out (by kernel_rfl)) (fun _ _ _ h => h) (Or.inl ⟨by rfl, ?_⟩) ?_ ?_
      rotate_left
      · intro w'
        go_simp
        with_reducible rfl
      rotate_left
      · simp only [Act.put, List.setIfInBounds_toArray, List.set_cons_zero, List.set_cons_succ]
        rfl
      refine take_ (i := 6) (N := some 40) (v := ?_) (a' := ?_) #[true, true, true, true, true, true, true, false, false, false, false] rfl rfl (take_of HT_.out (by kernel_rfl)) (fun _ _ _ h => h) (Or.inl ⟨by rfl, ?_⟩) hHeld ?_ ?_
      rotate_left
      · intro w' hw'
        obtain ⟨s0, s1, s2, s3, s4, s5⟩ := hw'
        go_simp
        with_reducible rfl
      rotate_left
      · simp only [Act.put, List.setIfInBounds_toArray, List.set_cons_zero, List.set_cons_succ]
        rfl
      refine pure_ (i := 7) (N := some 41) (v := ?_) (a' := ?_) #[true, true, true, true, true, true, true, true, false, false, false] rfl rfl (any_of HT_.out (by kernel_rfl)) (fun _ _ _ h => h) (Or.inl ⟨by rfl, ?_⟩) ?_ ?_
      rotate_left
      · intro w'
        go_simp
        with_reducible rfl
      rotate_left
      · simp only [Act.put, List.setIfInBounds_toArray, List.set_cons_zero, List.set_cons_succ]
        rfl
      refine pure_ (i := 8) (N := some 42) (v := ?_) (a' := ?_) #[true, true, true, true, true, true, true, true, true, false, false] rfl rfl (any_of HT_.out (by kernel_rfl)) (fun _ _ _ h => h) (Or.inl ⟨by rfl, ?_⟩) ?_ ?_
      rotate_left
      · intro w'
        go_simp
        with_reducible rfl
      rotate_left
      · simp only [Act.put, List.setIfInBounds_toArray, List.set_cons_zero, List.set_cons_succ]
        rfl
      refine take_ (i := 9) (N := some 43) (v := ?_) (a' := ?_) #[true, true, true, true, true, true, true, true, true, true, false] rfl rfl (take_of HT_.out (by kernel_rfl)) (fun _ _ _ h => h) (Or.inl ⟨by rfl, ?_⟩) hHeld ?_ ?_
      rotate_left
      · intro w' hw'
        obtain ⟨s0, s1, s2, s3, s4, s5⟩ := hw'
        go_simp
        with_reducible rfl
      rotate_left
      · simp only [Act.put, List.setIfInBounds_toArray, List.set_cons_zero, List.set_cons_succ]
        rfl
      refine pure_ (i := 10) (N := some 44) (v := (.bool false)) (a' := ?_) #[true, true, true, true, true, true, true, true, true, true, true] rfl rfl (any_of HT_.out (by kernel_rfl)) (fun _ _ _ h => h) (Or.inl ⟨by rfl, ?_⟩) ?_ ?_
      · intro w'
        go_simp
        first | done | rfl | (cases xb <;> simp; done) | trace_state
      rotate_left
      · simp only [Act.put, List.setIfInBounds_toArray, List.set_cons_zero, List.set_cons_succ]
        rfl
      refine done_ (done_of HT_.out (by kernel_rfl)) ?_
      clear HT_ hHeld
      go_wp2
      go_roundg (gk - 1)
      case measure => omega
      case rel => exact ⟨i + 1, by go_num, by omega, HW⟩
    · obtain rfl : i = xs.length := by omega
      go_wp2
      go_ret
      exact ⟨rfl, HB.out.trans (HW.out.mono HB.out.size)⟩
end Go.Proofs.Ytoojmbifkjocfaa.Proof
