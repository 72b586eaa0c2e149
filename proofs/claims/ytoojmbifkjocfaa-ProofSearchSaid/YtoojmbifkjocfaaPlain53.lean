/- What plain answers: what was found, as the document's. Conditions stand in the statement. -/
import Derived.Test.YtoojmbifkjocfaaProofUse
import Derived.Test.YtoojmbifkjocfaaRefPlain
namespace Go.Proofs.Ytoojmbifkjocfaa.Proof
open Go.RowKit Go.Proofs.YtoojmbifkjocfaaW.PrintWords Go.Proofs.YtoojmbifkjocfaaW.PrintLast Go.Proofs.YtoojmbifkjocfaaW.PrintMore Go.Proofs.Ytoojmbifkjocfaa.Kit Go.Proofs.Ytoojmbifkjocfaa.Plain
set_option linter.unusedVariables false
set_option linter.unusedSimpArgs false
theorem infoLkR : (Try.prog.info? 58).map (fun i => (i.zero, i.size, i.bytes)) = some (some (.agg #[.int .u64 0, .bool false]), 2, 16) := by kernel_rfl
def tabP5 : Bool × List (List Nat × List Nat) := (true, [([], []), ([0], [0]), ([], []), ([2], [2]), ([], []), ([3, 4], [3, 4]), ([5], [5]), ([6], [6]), ([], []), ([8], [8]), ([], []), ([9, 10], [9, 10]), ([11], [11]), ([12], [12]), ([7, 13], [7, 13]), ([14], [14]), ([1, 15], [1, 15]), ([0, 1, 2, 3, 4, 5, 6, 7, 8, 9, 10, 11, 12, 13, 14, 15, 16], []), ([17, 16, 16, 0, 1, 2, 3, 4, 5, 6, 7, 8, 9, 10, 11, 12, 13, 14, 15, 16], [16, 17])])
theorem tabP5_ok : rtab .any (opsOf Try.f13 5) = tabP5 := by kernel_rfl
def refObj (a : Int) (o : Bool) (v : Value) : Obj := .cells #[.int .u64 a, .bool o, v] 32 (0, 0)
theorem three_newsB {w W : World} {o1 o2 o3 : Obj} (hW : W = ((w.alloc o1).alloc o2).alloc o3) :
    W.heap[w.heap.size]? = some o1 ∧ W.heap[w.heap.size + 1]? = some o2 ∧ W.heap[w.heap.size + 1 + 1]? = some o3 ∧ Below w.heap.size w W := by
  subst hW
  have h1 := blk_new (w.alloc o1) o2
  rw [show (w.alloc o1).heap.size = w.heap.size + 1 by simp] at h1
  have h2 := blk_new ((w.alloc o1).alloc o2) o3
  rw [show ((w.alloc o1).alloc o2).heap.size = w.heap.size + 1 + 1 by simp] at h2
  exact ⟨blk_alloc (blk_alloc (blk_new w o1) o2) o3, blk_alloc h1 o3, h2, below_alloc (below_alloc (below_alloc (Below.refl _ _) _) _) _⟩
set_option maxHeartbeats 1600000 in
set_option maxRecDepth 100000 in
theorem plain_any (m : Int) (ok : Bool) (A4 : Option Addr) (n4 c4 : Nat) (L : List (Int × Bool)) (w : World) (hr4 : Kd.C Lk w A4 n4 L) (h40 : n4 ≤ 100000) :
    Calls Try.prog 13 #[.agg #[.int .u64 m, .bool ok, .slice A4 n4 c4]] w fun e w' => ∃ A c, e = .returned (.agg #[.int .u64 m, .bool ok, .slice A L.length c]) ∧ Kd.C Lk w' A L.length L ∧ Below w.heap.size w w' := by
  obtain rfl := C_len hr4
  have hmx4 := C_max hr4
  have HR4 := Aside0.mk hr4
  clear hr4
  go_enter Try.func13, Try.ntmps13
  go_wp2
  obtain ⟨W1, hW1⟩ : ∃ W1, W1 = ((w.alloc (.cells #[.int .u64 m, .bool ok, .slice A4 L.length c4] 25)).alloc (.cells #[.int .u64 0, .bool false, .slice none 0 0] 32)).alloc (.cells #[.int .u64 m, .bool ok, .slice none 0 0] 32) := ⟨_, rfl⟩
  rw [← hW1]
  obtain ⟨q1, q2, q3, q4⟩ := three_newsB hW1
  have HKF0 := Aside0.mk q1
  have HK20 := Aside0.mk q2
  have HK30 := Aside0.mk q3
  have HB0 := Aside0.mk q4
  clear hW1 q1 q2 q3 q4
  go_loopg [4] L.length (fun gk v4 w' => ∃ (i : Nat) (v : Value), v4 = .int .i64 (i : Int) ∧ i + gk = L.length ∧ Aside0 (Kd.R Lk 58 w' w.heap.size (fun k => k ≠ w.heap.size ∧ k ≠ w.heap.size + 1 ∧ k ≠ w.heap.size + 1 + 1) v (L.take i)) ∧
    Aside0 (w'.heap[w.heap.size]? = some (foundObj m ok (.slice A4 L.length c4))) ∧ Aside0 (w'.heap[w.heap.size + 1]? = some (refObj 0 false (.slice none 0 0))) ∧ Aside0 (w'.heap[w.heap.size + 1 + 1]? = some (refObj m ok v)) ∧ Aside0 (Below w.heap.size w w'))
  case atStart => exact ⟨0, .slice none 0 0, rfl, by omega, ⟨Kd.R_nil _ _ _ _ _⟩, HKF0, HK20, HK30, HB0⟩
  case round =>
    obtain ⟨i, v, rfl, hig, HO, HKF, HK2, HK3, HB⟩ := hrel
    have x2 : wr.cell? ⟨w.heap.size, 2, none⟩ = some (.slice A4 L.length c4) := blk_cell HKF.out 2
    have hlt := blk_lt HK3.out
    by_cases hi : i < L.length
    · obtain ⟨a4, rfl, hc1⟩ := C_flat HR4.out (0, false) i hi
      obtain ⟨x, hx⟩ : ∃ x, x = L.getD i (0, false) := ⟨_, rfl⟩
      obtain ⟨pm, pb⟩ := x
      have hget : L[i] = (pm, pb) := by rw [hx, List.getD_eq_getElem?_getD, List.getElem?_eq_getElem hi]; rfl
      rw [← hx] at hc1
      have HG0 := Aside0.mk (show w.cell? (a4.add (i * 2)) = some (.int .u64 pm) from hc1 0 _ rfl)
      have HG1 := Aside0.mk (show w.cell? ⟨(a4.add (i * 2)).block, (a4.add (i * 2)).off + 1, none⟩ = some (.bool pb) from (add_next a4 (i * 2)) ▸ hc1 1 _ rfl)
      have HT := Aside0.mk (show L.take (i + 1) = L.take i ++ [(pm, pb)] by rw [List.take_succ_eq_append_getElem hi, hget])
      have x3 : wr.cell? ⟨w.heap.size + 1 + 1, 2, none⟩ = some v := blk_cell HK3.out 2
      have hk0 : (0 : Int) ≤ (i : Int) := by omega
      have hk1 : (i : Int) < (L.length : Int) := by omega
      clear hc1 hx hget
      go_wp2_with (fail)
      refine start_ (n := 19) (S := fun w' => w'.cell? ⟨w.heap.size + 1 + 1, 2, none⟩ = some v ∧ w'.cell? ⟨w.heap.size, 2, none⟩ = some (.slice (some a4) L.length c4) ∧ w'.cell? (a4.add (i * 2)) = some (.int .u64 pm) ∧ w'.cell? ⟨(a4.add (i * 2)).block, (a4.add (i * 2)).off + 1, none⟩ = some (.bool pb)) (ds := [18]) #[false, false, false, false, false, false, false, false, false, false, false, false, false, false, false, false, false, false, false] (by kernel_rfl) rfl rfl ⟨x3, x2, pw_cell_below (below_drew HB.out) HG0.out, pw_cell_below (below_drew HB.out) HG1.out⟩ (fun hHeld => ?_); refine with_tab tabP5_ok (fun HT_ => ?_)
      have hb : Below wr.heap.size wr wr.drew := below_drew (Below.refl _ _)
      replace HO := Aside0.mk (Kd.R_below HO.out hb)
      replace HB := Aside0.mk (HB.out.trans (hb.mono HB.out.size))
      clear hb
      refine pure_ (i := 0) (N := some 17) (v := ?_) (a' := ?_) #[true, false, false, false, false, false, false, false, false, false, false, false, false, false, false, false, false, false, false] rfl rfl (any_of HT_.out (by kernel_rfl)) (fun _ _ _ h => h) (Or.inl ⟨by rfl, ?_⟩) ?_ ?_
      rotate_left
      · intro w'
        go_simp
        with_reducible rfl
      rotate_left
      · simp only [Act.put, List.setIfInBounds_toArray, List.set_cons_zero, List.set_cons_succ]
        rfl
      refine take_ (i := 1) (N := some 18) (v := ?_) (a' := ?_) #[true, true, false, false, false, false, false, false, false, false, false, false, false, false, false, false, false, false, false] rfl rfl (take_of HT_.out (by kernel_rfl)) (fun _ _ _ h => h) (Or.inl ⟨by rfl, ?_⟩) hHeld ?_ ?_
      rotate_left
      · intro w' hw'
        obtain ⟨s0, s1, s2, s3⟩ := hw'
        go_simp
        with_reducible rfl
      rotate_left
      · simp only [Act.put, List.setIfInBounds_toArray, List.set_cons_zero, List.set_cons_succ]
        rfl
      refine pure_ (i := 2) (N := some 19) (v := ?_) (a' := ?_) #[true, true, true, false, false, false, false, false, false, false, false, false, false, false, false, false, false, false, false] rfl rfl (any_of HT_.out (by kernel_rfl)) (fun _ _ _ h => h) (Or.inl ⟨by rfl, ?_⟩) ?_ ?_
      rotate_left
      · intro w'
        go_simp
        with_reducible rfl
      rotate_left
      · simp only [Act.put, List.setIfInBounds_toArray, List.set_cons_zero, List.set_cons_succ]
        rfl
      refine take_ (i := 3) (N := some 20) (v := ?_) (a' := ?_) #[true, true, true, true, false, false, false, false, false, false, false, false, false, false, false, false, false, false, false] rfl rfl (take_of HT_.out (by kernel_rfl)) (fun _ _ _ h => h) (Or.inl ⟨by rfl, ?_⟩) hHeld ?_ ?_
      rotate_left
      · intro w' hw'
        obtain ⟨s0, s1, s2, s3⟩ := hw'
        go_simp
        with_reducible rfl
      rotate_left
      · simp only [Act.put, List.setIfInBounds_toArray, List.set_cons_zero, List.set_cons_succ]
        rfl
      refine pure_ (i := 4) (N := some 21) (v := ?_) (a' := ?_) #[true, true, true, true, true, false, false, false, false, false, false, false, false, false, false, false, false, false, false] rfl rfl (any_of HT_.out (by kernel_rfl)) (fun _ _ _ h => h) (Or.inl ⟨by rfl, ?_⟩) ?_ ?_
      rotate_left
      · intro w'
        go_simp
        with_reducible rfl
      rotate_left
      · simp only [Act.put, List.setIfInBounds_toArray, List.set_cons_zero, List.set_cons_succ]
        rfl
      refine pure_ (i := 5) (N := some 22) (v := ?_) (a' := ?_) #[true, true, true, true, true, true, false, false, false, false, false, false, false, false, false, false, false, false, false] rfl rfl (any_of HT_.out (by kernel_rfl)) (fun _ _ _ h => h) (Or.inl ⟨by rfl, ?_⟩) ?_ ?_
      rotate_left
      · intro w'
        go_simp
        with_reducible rfl
      rotate_left
      · simp only [Act.put, List.setIfInBounds_toArray, List.set_cons_zero, List.set_cons_succ]
        rfl
      refine pure_ (i := 6) (N := some 23) (v := ?_) (a' := ?_) #[true, true, true, true, true, true, true, false, false, false, false, false, false, false, false, false, false, false, false] rfl rfl (any_of HT_.out (by kernel_rfl)) (fun _ _ _ h => h) (Or.inl ⟨by rfl, ?_⟩) ?_ ?_
      rotate_left
      · intro w'
        go_simp
        with_reducible rfl
      rotate_left
      · simp only [Act.put, List.setIfInBounds_toArray, List.set_cons_zero, List.set_cons_succ]
        rfl
      refine take_ (i := 7) (N := some 24) (v := ?_) (a' := ?_) #[true, true, true, true, true, true, true, true, false, false, false, false, false, false, false, false, false, false, false] rfl rfl (take_of HT_.out (by kernel_rfl)) (fun _ _ _ h => h) (Or.inl ⟨by rfl, ?_⟩) hHeld ?_ ?_
      rotate_left
      · intro w' hw'
        obtain ⟨s0, s1, s2, s3⟩ := hw'
        go_simp
        with_reducible rfl
      rotate_left
      · simp only [Act.put, List.setIfInBounds_toArray, List.set_cons_zero, List.set_cons_succ]
        rfl
      refine pure_ (i := 8) (N := some 25) (v := ?_) (a' := ?_) #[true, true, true, true, true, true, true, true, true, false, false, false, false, false, false, false, false, false, false] rfl rfl (any_of HT_.out (by kernel_rfl)) (fun _ _ _ h => h) (Or.inl ⟨by rfl, ?_⟩) ?_ ?_
      rotate_left
      · intro w'
        go_simp
        with_reducible rfl
      rotate_left
      · simp only [Act.put, List.setIfInBounds_toArray, List.set_cons_zero, List.set_cons_succ]
        rfl
      refine take_ (i := 9) (N := some 26) (v := ?_) (a' := ?_) #[true, true, true, true, true, true, true, true, true, true, false, false, false, false, false, false, false, false, false] rfl rfl (take_of HT_.out (by kernel_rfl)) (fun _ _ _ h => h) (Or.inl ⟨by rfl, ?_⟩) hHeld ?_ ?_
      rotate_left
      · intro w' hw'
        obtain ⟨s0, s1, s2, s3⟩ := hw'
        go_simp
        with_reducible rfl
      rotate_left
      · simp only [Act.put, List.setIfInBounds_toArray, List.set_cons_zero, List.set_cons_succ]
        rfl
      refine pure_ (i := 10) (N := some 27) (v := ?_) (a' := ?_) #[true, true, true, true, true, true, true, true, true, true, true, false, false, false, false, false, false, false, false] rfl rfl (any_of HT_.out (by kernel_rfl)) (fun _ _ _ h => h) (Or.inl ⟨by rfl, ?_⟩) ?_ ?_
      rotate_left
      · intro w'
        go_simp
        with_reducible rfl
      rotate_left
      · simp only [Act.put, List.setIfInBounds_toArray, List.set_cons_zero, List.set_cons_succ]
        rfl
      refine pure_ (i := 11) (N := some 28) (v := ?_) (a' := ?_) #[true, true, true, true, true, true, true, true, true, true, true, true, false, false, false, false, false, false, false] rfl rfl (any_of HT_.out (by kernel_rfl)) (fun _ _ _ h => h) (Or.inl ⟨by rfl, ?_⟩) ?_ ?_
      rotate_left
      · intro w'
        go_simp
        with_reducible rfl
      rotate_left
      · simp only [Act.put, List.setIfInBounds_toArray, List.set_cons_zero, List.set_cons_succ]
        rfl
      refine pure_ (i := 12) (N := some 29) (v := ?_) (a' := ?_) #[true, true, true, true, true, true, true, true, true, true, true, true, true, false, false, false, false, false, false] rfl rfl (any_of HT_.out (by kernel_rfl)) (fun _ _ _ h => h) (Or.inl ⟨by rfl, ?_⟩) ?_ ?_
      rotate_left
      · intro w'
        go_simp
        with_reducible rfl
      rotate_left
      · simp only [Act.put, List.setIfInBounds_toArray, List.set_cons_zero, List.set_cons_succ]
        rfl
      refine take_ (i := 13) (N := some 30) (v := ?_) (a' := ?_) #[true, true, true, true, true, true, true, true, true, true, true, true, true, true, false, false, false, false, false] rfl rfl (take_of HT_.out (by kernel_rfl)) (fun _ _ _ h => h) (Or.inl ⟨by rfl, ?_⟩) hHeld ?_ ?_
      rotate_left
      · intro w' hw'
        obtain ⟨s0, s1, s2, s3⟩ := hw'
        go_simp
        with_reducible rfl
      rotate_left
      · simp only [Act.put, List.setIfInBounds_toArray, List.set_cons_zero, List.set_cons_succ]
        rfl
      refine pure_ (i := 14) (N := some 31) (v := ?_) (a' := ?_) #[true, true, true, true, true, true, true, true, true, true, true, true, true, true, true, false, false, false, false] rfl rfl (any_of HT_.out (by kernel_rfl)) (fun _ _ _ h => h) (Or.inl ⟨by rfl, ?_⟩) ?_ ?_
      rotate_left
      · intro w'
        go_simp
        with_reducible rfl
      rotate_left
      · simp only [Act.put, List.setIfInBounds_toArray, List.set_cons_zero, List.set_cons_succ]
        rfl
      refine one_ (i := 15) (N := some 32) #[true, true, true, true, true, true, true, true, true, true, true, true, true, true, true, true, false, false, false] rfl rfl (one_of HT_.out (by kernel_rfl)) (by decide) (fun Kq_ hK_ => ?_)
      refine value_ (w1 := ?_) (v := ?_) (by rfl) rfl ?_ ?_
      rotate_left 2
      · go_simp
        constructor
        · rfl
        · rfl
      refine hK_.out _ _ ⟨blk_cell (blk_alloc (show wr.drew.heap[w.heap.size + 1 + 1]? = _ from HK3.out) _) 2, blk_cell (blk_alloc (show wr.drew.heap[w.heap.size]? = _ from HKF.out) _) 2, pw_cell_below (HB.out.alloc HB.out.size _) HG0.out, pw_cell_below (HB.out.alloc HB.out.size _) HG1.out⟩ (fun hHeld => ?_)
      clear hK_ Kq_
      refine norm_ (a' := ?_) ?_ ?_
      rotate_left
      · show Act.put _ (some 32) _ = _
        simp only [Act.put, List.setIfInBounds_toArray, List.set_cons_zero, List.set_cons_succ]
        rfl
      refine one_ (i := 16) (N := some 33) #[true, true, true, true, true, true, true, true, true, true, true, true, true, true, true, true, true, false, false] rfl rfl (one_of HT_.out (by kernel_rfl)) (by decide) (fun Kq_ hK_ => ?_)
      refine Kd.R_append_step Lk (w0 := w) w.heap.size (by rfl) (.tmp 18) (.tmp 32) 30 58 (.agg #[.int .u64 0, .bool false]) 16 rfl Try.underlying30 infoLkR rfl (by decide) (by omega) v (L.take i) (pm, pb) (lkEnc (pm, pb)) (fun k => k ≠ w.heap.size ∧ k ≠ w.heap.size + 1 ∧ k ≠ w.heap.size + 1 + 1) (fun _ => False) rfl rfl rfl (fun _ hk => hk.elim) (fun k hk => by have h2 : wr.drew.heap.size = wr.heap.size := rfl; omega) HO.out HB.out HB.out.size (by rw [List.length_take]; omega) ?_
      intro v9 w9 ho hb hg hat
      obtain ⟨A9, c9, rfl⟩ := Kd.R_slice ho
      obtain ⟨n9, hn9⟩ : ∃ n9, n9 = (L.take i ++ [(pm, pb)]).length := ⟨_, rfl⟩
      rw [← hn9] at ho ⊢
      clear hn9
      have h9f := blk_grown (show wr.drew.heap[w.heap.size]? = _ from HKF.out) hg (fun he => (HO.out.1 _ he.symm).1 rfl)
      have h92 := blk_grown (show wr.drew.heap[w.heap.size + 1]? = _ from HK2.out) hg (fun he => (HO.out.1 _ he.symm).2.1 rfl)
      have h93 := blk_grown (show wr.drew.heap[w.heap.size + 1 + 1]? = _ from HK3.out) hg (fun he => (HO.out.1 _ he.symm).2.2 rfl)
      clear HB
      have HB := Aside0.mk hb
      have HO9 := Aside0.mk ho
      have H9F := Aside0.mk h9f
      have H92 := Aside0.mk h92
      have H93 := Aside0.mk h93
      have p9 : w9.cell? ⟨w.heap.size + 1 + 1, 2, none⟩ = some v := blk_cell h93 2
      have z9 : w9.frozen? ⟨w.heap.size + 1 + 1, 2, none⟩ = false := blk_frozen h93 2
      clear ho hb hg hat h9f h92 h93
      refine hK_.out _ _ ⟨blk_cell H93.out 2, blk_cell H9F.out 2, pw_cell_below HB.out HG0.out, pw_cell_below HB.out HG1.out⟩ (fun hHeld => ?_)
      clear hK_ Kq_
      refine norm_ (a' := ?_) ?_ ?_
      rotate_left
      · show Act.put _ (some 33) _ = _
        simp only [Act.put, List.setIfInBounds_toArray, List.set_cons_zero, List.set_cons_succ]
        rfl
      refine pure_ (i := 17) (N := some 34) (v := ?_) (a' := ?_) #[true, true, true, true, true, true, true, true, true, true, true, true, true, true, true, true, true, true, false] rfl rfl (any_of HT_.out (by kernel_rfl)) (fun _ _ _ h => h) (Or.inl ⟨by rfl, ?_⟩) ?_ ?_
      rotate_left
      · intro w'
        go_simp
        with_reducible rfl
      rotate_left
      · simp only [Act.put, List.setIfInBounds_toArray, List.set_cons_zero, List.set_cons_succ]
        rfl
      refine last_ (i := 18) (N := none) #[true, true, true, true, true, true, true, true, true, true, true, true, true, true, true, true, true, true, true] rfl rfl (one_of HT_.out (by kernel_rfl)) (by decide) (fun Kq_ hK_ => ?_)
      refine skip_ (w1 := ?_) (by rfl) rfl ?_ ?_
      rotate_left
      · go_simp
        first | done | rfl
      refine hK_.out _ _ ?_
      clear hK_ Kq_
      refine done_ (done_of HT_.out (by kernel_rfl)) ?_
      clear HT_ hHeld
      go_wp2
      go_roundg (gk - 1)
      case measure => omega
      case rel => exact ⟨i + 1, _, by go_num, by omega, ⟨by rw [HT.out]; exact R_set_far HO9.out (fun k hk => hk.2.2)⟩,
        ⟨(Below.heap_setCell w9 ⟨w.heap.size + 1 + 1, 2, none⟩ _ w.heap.size (by simp; omega)).trans H9F.out⟩, ⟨(Below.heap_setCell w9 ⟨w.heap.size + 1 + 1, 2, none⟩ _ (w.heap.size + 1) (by simp)).trans H92.out⟩, ⟨blk_set H93.out 2 _⟩, ⟨HB.out.setCell (by show w.heap.size ≤ w.heap.size + 1 + 1; omega) _⟩⟩
    · obtain rfl : i = L.length := by omega
      rw [List.take_length] at HO
      obtain ⟨A9, c9, rfl⟩ := Kd.R_slice HO.out
      have p0 : wr.cell? ⟨w.heap.size + 1 + 1, 0, none⟩ = some (.int .u64 m) := blk_cell HK3.out 0
      have p1 : wr.cell? ⟨w.heap.size + 1 + 1, 1, none⟩ = some (.bool ok) := blk_cell HK3.out 1
      have p2 : wr.cell? ⟨w.heap.size + 1 + 1, 2, none⟩ = some (.slice A9 L.length c9) := blk_cell HK3.out 2
      have q0 : wr.cell? ⟨w.heap.size + 1, 0, none⟩ = some (.int .u64 0) := blk_cell HK2.out 0
      have q1 : wr.cell? ⟨w.heap.size + 1, 1, none⟩ = some (.bool false) := blk_cell HK2.out 1
      have q2 : wr.cell? ⟨w.heap.size + 1, 2, none⟩ = some (.slice none 0 0) := blk_cell HK2.out 2
      have z0 : wr.frozen? ⟨w.heap.size + 1, 0, none⟩ = false := blk_frozen HK2.out 0
      have z1 : wr.frozen? ⟨w.heap.size + 1, 1, none⟩ = false := blk_frozen HK2.out 1
      have z2 : wr.frozen? ⟨w.heap.size + 1, 2, none⟩ = false := blk_frozen HK2.out 2
      go_wp2
      have hfin := blk_set (blk_set (blk_set HK2.out 0 (.int .u64 m)) 1 (.bool ok)) 2 (.slice A9 L.length c9)
      have r0 := blk_cell hfin 0
      have r1 := blk_cell hfin 1
      have r2 := blk_cell hfin 2
      refine bodyPost_ret (v := .agg #[.int .u64 m, .bool ok, .slice A9 L.length c9]) (by simp [results, Try.results13, go_sem, r0, r1, r2]) rfl ?_
      refine ⟨A9, c9, rfl, ?_, ?_⟩
      · have h1 := R_set_far (g := w.heap.size + 1) (i := 2) (u := .slice A9 L.length c9) (R_set_far (g := w.heap.size + 1) (i := 1) (u := .bool ok) (R_set_far (g := w.heap.size + 1) (i := 0) (u := .int .u64 m) HO.out (fun k hk => hk.2.1)) (fun k hk => hk.2.1)) (fun k hk => hk.2.1)
        exact (Kd.R_reads' h1).2.2
      · exact ((HB.out.setCell (by show w.heap.size ≤ w.heap.size + 1; omega) _).setCell (by show w.heap.size ≤ w.heap.size + 1; omega) _).setCell (by show w.heap.size ≤ w.heap.size + 1; omega) _
end Go.Proofs.Ytoojmbifkjocfaa.Proof
