/- What the functions of layer 53 (proof) answer: Check, and what it calls. Conditions stand in each statement. -/
import Derived.Test.YtoojmbifkjocfaaLk
import Derived.Test.YtoojmbifkjocfaaMapB
import Derived.Test.YtoojmbifkjocfaaProofPlain
namespace Go.Proofs.Ytoojmbifkjocfaa.Proof
open Go.RowKit Go.Proofs.YtoojmbifkjocfaaW.PrintWords Go.Proofs.YtoojmbifkjocfaaW.PrintLast Go.Proofs.YtoojmbifkjocfaaW.PrintMore Go.Proofs.Ytoojmbifkjocfaa.Kit Go.Proofs.Ytoojmbifkjocfaa.Plain
set_option linter.unusedVariables false
set_option linter.unusedSimpArgs false
/-- Where a moment stands first; -1: nowhere. -/
def IdxIs (ms : List Int) (x r : Int) : Prop := (x ∉ ms ∧ r = -1) ∨ ∃ q : Nat, q < ms.length ∧ nth ms q = x ∧ r = (q : Int)
set_option maxHeartbeats 800000 in
set_option maxRecDepth 100000 in
theorem index_any (A : Option Addr) (n c : Nat) (ms : List Int) (x : Int) (w : World) (hr : RdM w A n ms) :
    Calls Try.prog 24 #[.slice A n c, .int .u64 x] w fun e w' => ∃ r, e = .returned (.int .i64 r) ∧ IdxIs ms x r ∧ Below w.heap.size w w' := by
  obtain rfl := C_len hr
  have HB := Aside0.mk (Below.refl w.heap.size w)
  have hm := C_max hr
  have HR := Aside0.mk hr
  clear hr
  go_enter Try.func24, Try.ntmps24
  go_wp2
  go_loopg [8] ms.length (fun gk v w' => ∃ j : Nat, v = .int .i64 (j : Int) ∧ j + gk = ms.length ∧ Aside0 (∀ i, i < j → nth ms i ≠ x) ∧ Aside0 (Below w.heap.size w w'))
  case atStart => exact ⟨0, rfl, by omega, ⟨fun i hi => by omega⟩, HB⟩
  case round =>
    clear HB
    obtain ⟨j, rfl, hj, HJ, HB⟩ := hrel
    by_cases hlt : j < ms.length
    · obtain ⟨ad, rfl, hc1⟩ := C_at HR.out j hlt
      have x1 := pw_cell_below HB.out hc1
      have hi0 : 0 ≤ (j : Int) := by omega
      have hi1 : (j : Int) < (ms.length : Int) := by omega
      by_cases hn : x = nth ms j
      · subst hn
        go_wp2
        go_ret
        exact ⟨_, rfl, .inr ⟨j, hlt, rfl, rfl⟩, HB.out⟩
      · go_wp2
        go_roundg (gk - 1)
        case measure => omega
        case rel => exact ⟨j + 1, by go_num, by omega, ⟨fun i hi => by
            rcases Nat.lt_or_ge i j with h | h
            · exact HJ.out i h
            · obtain rfl : i = j := by omega
              exact fun h => hn h.symm⟩, HB⟩
    · obtain rfl : ms.length = j := by omega
      go_wp2
      go_ret
      refine ⟨_, rfl, .inl ⟨fun h => ?_, rfl⟩, HB.out⟩
      obtain ⟨i, hi, he⟩ := mem_nth h
      exact HJ.out i hi he
theorem contains_any (A : Option Addr) (n c : Nat) (ms : List Int) (x : Int) (w : World) (hr : RdM w A n ms) :
    Calls Try.prog 23 #[.slice A n c, .int .u64 x] w fun e w' => e = .returned (.bool (decide (x ∈ ms))) ∧ Below w.heap.size w w' := by
  have HR := Aside0.mk hr
  clear hr
  by_cases hx : x ∈ ms
  · have hd : decide (x ∈ ms) = true := decide_eq_true hx
    have HX := Aside0.mk hx
    rw [hd]
    clear hx hd
    go_enter Try.func23, Try.ntmps23
    go_wp2_with (go_at_call 24; go_must (refine (index_any _ _ _ ms x _ HR.out).mono ?_; rintro e w1 ⟨r, rfl, hi, hb⟩; rcases hi with ⟨hi, _⟩ | ⟨q, hq, he, rfl⟩; exact absurd HX.out hi; have hq0 : decide ((0 : Int) ≤ (q : Int)) = true := decide_eq_true (by omega); have HB := Aside0.mk hb; clear hb he))
    go_ret
    exact ⟨rfl, HB.out⟩
  · have hd : decide (x ∈ ms) = false := decide_eq_false hx
    have HX := Aside0.mk hx
    rw [hd]
    clear hx hd
    go_enter Try.func23, Try.ntmps23
    go_wp2_with (go_at_call 24; go_must (refine (index_any _ _ _ ms x _ HR.out).mono ?_; rintro e w1 ⟨r, rfl, hi, hb⟩; rcases hi with ⟨_, rfl⟩ | ⟨q, hq, he, _⟩; rotate_left; exact absurd (he ▸ nth_mem hq) HX.out; have HB := Aside0.mk hb; clear hb))
    go_ret
    exact ⟨rfl, HB.out⟩
def tabC4 : Bool × List (List Nat × List Nat) := (true, [([], []), ([], []), ([0, 1], [0, 1]), ([2], [2]), ([], []), ([], []), ([5], [5]), ([4, 6], [4, 6]), ([7], [7]), ([3, 8], [3, 8])])
theorem tabC4_ok : rtab .any (opsOf Try.f11 4) = tabC4 := by kernel_rfl
set_option maxHeartbeats 1600000 in
set_option maxRecDepth 100000 in
theorem check_any (m : Int) (ok : Bool) (A4 : Option Addr) (n4 c4 : Nat) (L : List (Int × Bool)) (A : Option Addr) (n c : Nat) (ms : List Int) (w : World) (hr4 : Kd.C Lk w A4 n4 L) (hr : RdM w A n ms)
    (hm : (Lit.int .u64 m).wf = true) (hL : ∀ p ∈ L, (Lit.int .u64 p.1).wf = true) (hms : ∀ x ∈ ms, (Lit.int .u64 x).wf = true) :
    Calls Try.prog 11 #[.agg #[.int .u64 m, .bool ok, .slice A4 n4 c4], .slice A n c] w fun e w' => e = .returned (.bool (standB m ok L ms)) ∧ Below w.heap.size w w' := by
  obtain rfl := C_len hr
  obtain rfl := C_len hr4
  have HW := Aside0.mk (And.intro hm (And.intro hL hms))
  have hmx := C_max hr
  have hmx4 := C_max hr4
  have HR := Aside0.mk hr
  have HR4 := Aside0.mk hr4
  clear hr hr4 hm hL hms
  have hmm := @run_makeMap Try.prog
  go_enter Try.func11, Try.ntmps11
  go_wp2
  obtain ⟨W1, hW1⟩ : ∃ W1, W1 = w.alloc (.cells #[.int .u64 m, .bool ok, .slice A4 L.length c4] 25) := ⟨_, rfl⟩
  rw [← hW1]
  have hb1 : Below w.heap.size w W1 := by rw [hW1]; exact below_alloc (Below.refl _ _) _
  have k1 : W1.heap[w.heap.size]? = some (foundObj m ok (.slice A4 L.length c4)) := by rw [hW1]; exact blk_new w _
  replace HR := Aside0.mk (Kd.C_below HR.out hb1)
  replace HR4 := Aside0.mk (Kd.C_below HR4.out hb1)
  have HK := Aside0.mk k1
  have HB1 := Aside0.mk hb1
  clear hW1 k1 hb1
  go_loopg [5] ms.length (fun gk v w' => ∃ j : Nat, v = .int .i64 ((j : Int) + 1) ∧ (j + gk = ms.length ∨ (j = 0 ∧ gk = 0 ∧ ms.length = 0)) ∧ Aside0 (∀ i, i < j → i + 1 < ms.length → nth ms i < nth ms (i + 1)) ∧ Aside0 (Below W1.heap.size W1 w'))
  case atStart => exact ⟨0, rfl, .inl (by omega), ⟨fun i hi => by omega⟩, ⟨Below.refl _ _⟩⟩
  case round =>
    obtain ⟨j, rfl, hj, HJ, HB⟩ := hrel
    by_cases hlt : j + 1 < ms.length
    · obtain ⟨ad, rfl, hc1⟩ := C_at HR.out j (by omega)
      obtain ⟨ad', he', hc2⟩ := C_at HR.out (j + 1) (by omega)
      injection he' with he'
      subst he'
      have hae : ad.add (j + 1) = ⟨ad.block, ad.off + (j + 1), none⟩ := by unfold Addr.add; split <;> simp_all
      rw [hae] at hc2
      have HC1 := Aside0.mk hc1
      have HC2 := Aside0.mk hc2
      clear hc1 hc2 hae
      have e4 : IntKind.i64.wrap ((j : Int) + 1 - 1) = (j : Int) := by rw [IntWalk.i64_in _ (by omega)]; omega
      have e5 : (j : Int) + 1 - 1 = (j : Int) := by omega
      have e6 : IntKind.i64.wrap (j : Int) = (j : Int) := IntWalk.i64_in _ (by omega)
      have hi0 : 0 ≤ (j : Int) + 1 := by omega
      have hi1 : (j : Int) + 1 < (ms.length : Int) := by omega
      have hi2 : (j : Int) < (ms.length : Int) := by omega
      by_cases hn : nth ms j < nth ms (j + 1)
      · have f1 : decide (nth ms (j + 1) ≤ nth ms j) = false := decide_eq_false (by omega)
        have HN := Aside0.mk hn
        clear hn
        go_wp2_with (fail)
        refine start_ (n := 10) (S := fun w' => w'.cell? (ad.add j) = some (.int .u64 (nth ms j)) ∧ w'.cell? ⟨ad.block, ad.off + (j + 1), none⟩ = some (.int .u64 (nth ms (j + 1)))) (ds := []) #[false, false, false, false, false, false, false, false, false, false] (by kernel_rfl) rfl rfl ⟨pw_cell_below (below_drew HB.out) HC1.out, pw_cell_below (below_drew HB.out) HC2.out⟩ (fun hHeld => ?_); refine with_tab tabC4_ok (fun HT_ => ?_)
        have hb : Below wr.heap.size wr wr.drew := below_drew (Below.refl _ _)
        replace HB := Aside0.mk (HB.out.trans (hb.mono HB.out.size))
        clear hb
        refine pure_ (i := 0) (N := some 24) (v := ?_) (a' := ?_) #[true, false, false, false, false, false, false, false, false, false] rfl rfl (any_of HT_.out (by kernel_rfl)) (fun _ _ _ h => h) (Or.inl ⟨by rfl, ?_⟩) ?_ ?_
        rotate_left
        · intro w'
          go_simp
          with_reducible rfl
        rotate_left
        · simp only [Act.put, List.setIfInBounds_toArray, List.set_cons_zero, List.set_cons_succ]
          rfl
        refine pure_ (i := 1) (N := some 25) (v := ?_) (a' := ?_) #[true, true, false, false, false, false, false, false, false, false] rfl rfl (any_of HT_.out (by kernel_rfl)) (fun _ _ _ h => h) (Or.inl ⟨by rfl, ?_⟩) ?_ ?_
        rotate_left
        · intro w'
          go_simp
          with_reducible rfl
        rotate_left
        · simp only [Act.put, List.setIfInBounds_toArray, List.set_cons_zero, List.set_cons_succ]
          rfl
        refine pure_ (i := 2) (N := some 26) (v := ?_) (a' := ?_) #[true, true, true, false, false, false, false, false, false, false] rfl rfl (any_of HT_.out (by kernel_rfl)) (fun _ _ _ h => h) (Or.inl ⟨by rfl, ?_⟩) ?_ ?_
        rotate_left
        · intro w'
          go_simp
          with_reducible rfl
        rotate_left
        · simp only [Act.put, List.setIfInBounds_toArray, List.set_cons_zero, List.set_cons_succ]
          rfl
        refine take_ (i := 3) (N := some 27) (v := ?_) (a' := ?_) #[true, true, true, true, false, false, false, false, false, false] rfl rfl (take_of HT_.out (by kernel_rfl)) (fun _ _ _ h => h) (Or.inl ⟨by rfl, ?_⟩) hHeld ?_ ?_
        rotate_left
        · intro w' hw'
          obtain ⟨hw1, hw2⟩ := hw'
          go_simp
          with_reducible rfl
        rotate_left
        · simp only [Act.put, List.setIfInBounds_toArray, List.set_cons_zero, List.set_cons_succ]
          rfl
        refine pure_ (i := 4) (N := some 28) (v := ?_) (a' := ?_) #[true, true, true, true, true, false, false, false, false, false] rfl rfl (any_of HT_.out (by kernel_rfl)) (fun _ _ _ h => h) (Or.inl ⟨by rfl, ?_⟩) ?_ ?_
        rotate_left
        · intro w'
          go_simp
          with_reducible rfl
        rotate_left
        · simp only [Act.put, List.setIfInBounds_toArray, List.set_cons_zero, List.set_cons_succ]
          rfl
        refine pure_ (i := 5) (N := some 29) (v := ?_) (a' := ?_) #[true, true, true, true, true, true, false, false, false, false] rfl rfl (any_of HT_.out (by kernel_rfl)) (fun _ _ _ h => h) (Or.inl ⟨by rfl, ?_⟩) ?_ ?_
        rotate_left
        · intro w'
          go_simp
          with_reducible rfl
        rotate_left
        · simp only [Act.put, List.setIfInBounds_toArray, List.set_cons_zero, List.set_cons_succ]
          rfl
        refine pure_ (i := 6) (N := some 30) (v := ?_) (a' := ?_) #[true, true, true, true, true, true, true, false, false, false] rfl rfl (any_of HT_.out (by kernel_rfl)) (fun _ _ _ h => h) (Or.inl ⟨by rfl, ?_⟩) ?_ ?_
        rotate_left
        · intro w'
          go_simp
          with_reducible rfl
        rotate_left
        · simp only [Act.put, List.setIfInBounds_toArray, List.set_cons_zero, List.set_cons_succ]
          rfl
        refine pure_ (i := 7) (N := some 31) (v := ?_) (a' := ?_) #[true, true, true, true, true, true, true, true, false, false] rfl rfl (any_of HT_.out (by kernel_rfl)) (fun _ _ _ h => h) (Or.inl ⟨by rfl, ?_⟩) ?_ ?_
        rotate_left
        · intro w'
          go_simp
          with_reducible rfl
        rotate_left
        · simp only [Act.put, List.setIfInBounds_toArray, List.set_cons_zero, List.set_cons_succ]
          rfl
        refine take_ (i := 8) (N := some 32) (v := ?_) (a' := ?_) #[true, true, true, true, true, true, true, true, true, false] rfl rfl (take_of HT_.out (by kernel_rfl)) (fun _ _ _ h => h) (Or.inl ⟨by rfl, ?_⟩) hHeld ?_ ?_
        rotate_left
        · intro w' hw'
          obtain ⟨hw1, hw2⟩ := hw'
          go_simp
          with_reducible rfl
        rotate_left
        · simp only [Act.put, List.setIfInBounds_toArray, List.set_cons_zero, List.set_cons_succ]
          rfl
        refine pure_ (i := 9) (N := some 33) (v := ?_) (a' := ?_) #[true, true, true, true, true, true, true, true, true, true] rfl rfl (any_of HT_.out (by kernel_rfl)) (fun _ _ _ h => h) (Or.inl ⟨by rfl, ?_⟩) ?_ ?_
        rotate_left
        · intro w'
          go_simp
          with_reducible rfl
        rotate_left
        · simp only [Act.put, List.setIfInBounds_toArray, List.set_cons_zero, List.set_cons_succ]
          rfl
        refine done_ (done_of HT_.out (by kernel_rfl)) ?_
        clear HT_ hHeld e4 e5 e6 hi0 hi1 hi2
        go_wp2
        go_roundg (gk - 1)
        case measure => omega
        case rel => exact ⟨j + 1, by go_num, .inl (by omega), ⟨fun i hi hi2 => by
            rcases Nat.lt_or_ge i j with h | h
            · exact HJ.out i h hi2
            · obtain rfl : i = j := by omega
              exact HN.out⟩, HB⟩
      · have f1 : decide (nth ms (j + 1) ≤ nth ms j) = true := decide_eq_true (by omega)
        have HN := Aside0.mk (stand_no_inc (m := m) (ok := ok) (L := L) (ms := ms) (fun h => hn (h j (by omega))))
        clear hn
        go_wp2_with (fail)
        refine start_ (n := 10) (S := fun w' => w'.cell? (ad.add j) = some (.int .u64 (nth ms j)) ∧ w'.cell? ⟨ad.block, ad.off + (j + 1), none⟩ = some (.int .u64 (nth ms (j + 1)))) (ds := []) #[false, false, false, false, false, false, false, false, false, false] (by kernel_rfl) rfl rfl ⟨pw_cell_below (below_drew HB.out) HC1.out, pw_cell_below (below_drew HB.out) HC2.out⟩ (fun hHeld => ?_); refine with_tab tabC4_ok (fun HT_ => ?_)
        have hb : Below wr.heap.size wr wr.drew := below_drew (Below.refl _ _)
        replace HB := Aside0.mk (HB.out.trans (hb.mono HB.out.size))
        clear hb
        refine pure_ (i := 0) (N := some 24) (v := ?_) (a' := ?_) #[true, false, false, false, false, false, false, false, false, false] rfl rfl (any_of HT_.out (by kernel_rfl)) (fun _ _ _ h => h) (Or.inl ⟨by rfl, ?_⟩) ?_ ?_
        rotate_left
        · intro w'
          go_simp
          with_reducible rfl
        rotate_left
        · simp only [Act.put, List.setIfInBounds_toArray, List.set_cons_zero, List.set_cons_succ]
          rfl
        refine pure_ (i := 1) (N := some 25) (v := ?_) (a' := ?_) #[true, true, false, false, false, false, false, false, false, false] rfl rfl (any_of HT_.out (by kernel_rfl)) (fun _ _ _ h => h) (Or.inl ⟨by rfl, ?_⟩) ?_ ?_
        rotate_left
        · intro w'
          go_simp
          with_reducible rfl
        rotate_left
        · simp only [Act.put, List.setIfInBounds_toArray, List.set_cons_zero, List.set_cons_succ]
          rfl
        refine pure_ (i := 2) (N := some 26) (v := ?_) (a' := ?_) #[true, true, true, false, false, false, false, false, false, false] rfl rfl (any_of HT_.out (by kernel_rfl)) (fun _ _ _ h => h) (Or.inl ⟨by rfl, ?_⟩) ?_ ?_
        rotate_left
        · intro w'
          go_simp
          with_reducible rfl
        rotate_left
        · simp only [Act.put, List.setIfInBounds_toArray, List.set_cons_zero, List.set_cons_succ]
          rfl
        refine take_ (i := 3) (N := some 27) (v := ?_) (a' := ?_) #[true, true, true, true, false, false, false, false, false, false] rfl rfl (take_of HT_.out (by kernel_rfl)) (fun _ _ _ h => h) (Or.inl ⟨by rfl, ?_⟩) hHeld ?_ ?_
        rotate_left
        · intro w' hw'
          obtain ⟨hw1, hw2⟩ := hw'
          go_simp
          with_reducible rfl
        rotate_left
        · simp only [Act.put, List.setIfInBounds_toArray, List.set_cons_zero, List.set_cons_succ]
          rfl
        refine pure_ (i := 4) (N := some 28) (v := ?_) (a' := ?_) #[true, true, true, true, true, false, false, false, false, false] rfl rfl (any_of HT_.out (by kernel_rfl)) (fun _ _ _ h => h) (Or.inl ⟨by rfl, ?_⟩) ?_ ?_
        rotate_left
        · intro w'
          go_simp
          with_reducible rfl
        rotate_left
        · simp only [Act.put, List.setIfInBounds_toArray, List.set_cons_zero, List.set_cons_succ]
          rfl
        refine pure_ (i := 5) (N := some 29) (v := ?_) (a' := ?_) #[true, true, true, true, true, true, false, false, false, false] rfl rfl (any_of HT_.out (by kernel_rfl)) (fun _ _ _ h => h) (Or.inl ⟨by rfl, ?_⟩) ?_ ?_
        rotate_left
        · intro w'
          go_simp
          with_reducible rfl
        rotate_left
        · simp only [Act.put, List.setIfInBounds_toArray, List.set_cons_zero, List.set_cons_succ]
          rfl
        refine pure_ (i := 6) (N := some 30) (v := ?_) (a' := ?_) #[true, true, true, true, true, true, true, false, false, false] rfl rfl (any_of HT_.out (by kernel_rfl)) (fun _ _ _ h => h) (Or.inl ⟨by rfl, ?_⟩) ?_ ?_
        rotate_left
        · intro w'
          go_simp
          with_reducible rfl
        rotate_left
        · simp only [Act.put, List.setIfInBounds_toArray, List.set_cons_zero, List.set_cons_succ]
          rfl
        refine pure_ (i := 7) (N := some 31) (v := ?_) (a' := ?_) #[true, true, true, true, true, true, true, true, false, false] rfl rfl (any_of HT_.out (by kernel_rfl)) (fun _ _ _ h => h) (Or.inl ⟨by rfl, ?_⟩) ?_ ?_
        rotate_left
        · intro w'
          go_simp
          with_reducible rfl
        rotate_left
        · simp only [Act.put, List.setIfInBounds_toArray, List.set_cons_zero, List.set_cons_succ]
          rfl
        refine take_ (i := 8) (N := some 32) (v := ?_) (a' := ?_) #[true, true, true, true, true, true, true, true, true, false] rfl rfl (take_of HT_.out (by kernel_rfl)) (fun _ _ _ h => h) (Or.inl ⟨by rfl, ?_⟩) hHeld ?_ ?_
        rotate_left
        · intro w' hw'
          obtain ⟨hw1, hw2⟩ := hw'
          go_simp
          with_reducible rfl
        rotate_left
        · simp only [Act.put, List.setIfInBounds_toArray, List.set_cons_zero, List.set_cons_succ]
          rfl
        refine pure_ (i := 9) (N := some 33) (v := ?_) (a' := ?_) #[true, true, true, true, true, true, true, true, true, true] rfl rfl (any_of HT_.out (by kernel_rfl)) (fun _ _ _ h => h) (Or.inl ⟨by rfl, ?_⟩) ?_ ?_
        rotate_left
        · intro w'
          go_simp
          with_reducible rfl
        rotate_left
        · simp only [Act.put, List.setIfInBounds_toArray, List.set_cons_zero, List.set_cons_succ]
          rfl
        refine done_ (done_of HT_.out (by kernel_rfl)) ?_
        clear HT_ hHeld e4 e5 e6 hi0 hi1 hi2
        go_wp2
        go_ret
        exact ⟨retB HN.out.symm, HB1.out.trans (HB.out.mono HB1.out.size)⟩
    · have HI := Aside0.mk (show Inc ms from fun i hi => HJ.out i (by omega) (by omega))
      have hk := (HB.out.block _ (blk_lt HK.out)).trans HK.out
      have HBM := Aside0.mk (below_alloc (Below.refl wr.heap.size wr) (.map #[] 0))
      have HMM := Aside0.mk (mapB_made wr)
      have hka := blk_alloc hk (.map #[] 0)
      have x2 : (wr.alloc (.map #[] 0)).cell? ⟨w.heap.size, 2, none⟩ = some (.slice A4 L.length c4) := blk_cell hka 2
      have hbm : w.heap.size < wr.heap.size := blk_lt hk
      have f2 : decide ((j : Int) + 1 < (ms.length : Int)) = false := decide_eq_false (by omega)
      have HKA := Aside0.mk hka
      clear hk hka
      go_wp2
      have HB3 := Aside0.mk (HB1.out.trans (HB.out.mono HB1.out.size))
      replace HR := Aside0.mk (Kd.C_below HR.out HB.out)
      replace HR4 := Aside0.mk (Kd.C_below HR4.out HB.out)
      clear HJ x2 HK HB1 HB
      obtain ⟨W2, rfl⟩ : ∃ W2 : World, W2 = wr := ⟨_, rfl⟩
      obtain ⟨W3, hW3⟩ : ∃ W3, W3 = W2.alloc (.map #[] 0) := ⟨_, rfl⟩
      rw [← hW3] at HMM HKA HBM ⊢
      clear hW3
      obtain ⟨gko, rfl⟩ : ∃ gko : Nat, gko = gk := ⟨_, rfl⟩
      go_loopg [7, 8, 9, 10, 38] L.length (fun gk v7 v8 v9 v10 v38 w' => ∃ (k : Nat) (g l : Int) (sm an : Bool), v7 = .int .u64 g ∧ v8 = .int .u64 l ∧ v9 = .bool sm ∧ v10 = .bool an ∧ v38 = .int .i64 (k : Int) ∧ k + gk = L.length ∧
        Aside0 (Seen (L.take k) ms g l sm an) ∧ Aside0 (MapB w' W2.heap.size k (calledAs (L.take k))) ∧ Aside0 (w'.heap[w.heap.size]? = some (foundObj m ok (.slice A4 L.length c4))) ∧ Aside0 (Below W2.heap.size W2 w'))
      case atStart => exact ⟨0, 0, 18446744073709551615, false, false, rfl, rfl, rfl, rfl, rfl, by omega, ⟨Seen.start ms⟩, HMM, HKA, HBM⟩
      case round =>
        clear HMM HKA HBM
        obtain ⟨k, g, l, sm, an, rfl, rfl, rfl, rfl, rfl, hkg, HS, HMM, HKA, HB⟩ := hrel
        by_cases hk : k < L.length
        · obtain ⟨a4, rfl, hc1⟩ := C_flat HR4.out (0, false) k hk
          obtain ⟨x, hx⟩ : ∃ x, x = L.getD k (0, false) := ⟨_, rfl⟩
          obtain ⟨pm, pb⟩ := x
          have hget : L[k] = (pm, pb) := by rw [hx, List.getD_eq_getElem?_getD, List.getElem?_eq_getElem hk]; rfl
          rw [← hx] at hc1
          have g0 : wr.cell? (a4.add (k * 2)) = some (.int .u64 pm) := pw_cell_below HB.out (hc1 0 _ rfl)
          have g1 : wr.cell? ⟨(a4.add (k * 2)).block, (a4.add (k * 2)).off + 1, none⟩ = some (.bool pb) := pw_cell_below HB.out ((add_next a4 (k * 2)) ▸ hc1 1 _ rfl)
          have hmem : (pm, pb) ∈ L := hget ▸ List.getElem_mem hk
          have hwf := HW.out.2.1 _ hmem
          have hpr := wf_u64 hwf
          have htk : L.take (k + 1) = L.take k ++ [(pm, pb)] := by rw [List.take_succ_eq_append_getElem hk, hget]
          have hk0 : (0 : Int) ≤ (k : Int) := by omega
          have hk1 : (k : Int) < (L.length : Int) := by omega
          have HT := Aside0.mk htk
          have HG := Aside0.mk hget
          have HP := Aside0.mk hpr
          have HWF := Aside0.mk hwf
          have HME := Aside0.mk hmem
          clear hc1 hx htk hget hpr hwf hmem
          have hxa : (wr.alloc (.cells #[.int .u64 pm, .bool pb] 35)).heap[wr.heap.size]? = some (.cells #[.int .u64 pm, .bool pb] 35 (0, 0)) := blk_new wr _
          have HXA := Aside0.mk hxa
          have hba : Below wr.heap.size wr (wr.alloc (.cells #[.int .u64 pm, .bool pb] 35)) := below_alloc (Below.refl _ _) _
          have HMA := Aside0.mk (HMM.out.below hba)
          have HBA := Aside0.mk (HB.out.trans (hba.mono HB.out.size))
          have HKB := Aside0.mk (blk_alloc HKA.out (.cells #[.int .u64 pm, .bool pb] 35))
          clear hxa hba
          cases hcal : calledAs (L.take k) pm with
          | some b0 =>
            have HNO := Aside0.mk (stand_no_looks (m := m) (ok := ok) (looks_twice (ms := ms) hk HG.out ((calledAs_some HS.out.pw).1 hcal)))
            have HC := Aside0.mk hcal
            clear hcal
            go_wp2_with (at_lookup; go_must (refine wpB_look2 rfl _ _ rfl rfl rfl HMA.out pm rfl HWF.out ?_; rw [HC.out]; simp only [Option.getD_some, Option.isSome_some]))
            go_ret
            exact ⟨retB HNO.out.symm, HB3.out.trans (HBA.out.mono HB3.out.size)⟩
          | none =>
            have HC := Aside0.mk hcal
            have HNE := Aside0.mk (calledAs_none.1 hcal)
            clear hcal
            by_cases hin : pm ∈ ms
            · have HIN := Aside0.mk hin
              have hlt2 : W2.heap.size < wr.heap.size := HMM.out.lt
              have hlt3 : w.heap.size < W2.heap.size := hbm
              have HF := Aside0.mk (show (fun j => if j = pm then some pb else calledAs (L.take k) j) = calledAs (L.take (k + 1)) from by funext j; rw [HT.out, calledAs_snoc HNE.out])
              clear hin
              cases pb with
              | true =>
                go_wp2_with (first
                  | (at_lookup; go_must (refine wpB_look2 rfl _ _ rfl rfl rfl HMA.out pm rfl HWF.out ?_; rw [HC.out]; simp only [Option.getD_none, Option.isSome_none]))
                  | (go_at_call 23; go_must (refine (contains_any _ _ _ ms pm _ (Kd.C_below HR.out HBA.out)).mono ?_; rintro e w2 ⟨rfl, hb⟩; rw [decide_eq_true HIN.out]; have hx2 := (hb.block _ (by simp)).trans HXA.out; have y0 := blk_cell hx2 0; have y1 := blk_cell hx2 1; have HX2 := Aside0.mk hx2; have HM2 := Aside0.mk (HMA.out.below hb); have HB2 := Aside0.mk (HBA.out.trans (hb.mono HBA.out.size)); have HK2 := Aside0.mk ((hb.block _ (blk_lt HKB.out)).trans HKB.out); clear hb hx2))
                  | (at_mapUpdate; go_must (refine wpB_put rfl _ _ _ rfl rfl rfl HM2.out (by unfold maxLen; omega) pm true rfl rfl HWF.out ?_; intro w3 hm3 hg3; have hx3 := (hg3.block _ (blk_lt HX2.out) (by simp; omega)).trans HX2.out; have HM3 := Aside0.mk hm3; rw [HF.out] at HM3; have HB4 := Aside0.mk (below_grown HB2.out HB2.out.size (Nat.le_refl _) hg3); have HK3 := Aside0.mk ((hg3.block _ (blk_lt HK2.out) (by simp; omega)).trans HK2.out); replace y0 := blk_cell hx3 0; replace y1 := blk_cell hx3 1; clear hm3 hg3 hx3 HM2 HB2 HK2 HX2)))
                · go_roundg (gk - 1)
                  case measure => omega
                  case rel => first | exact ⟨k + 1, g, pm, sm, true, rfl, rfl, rfl, rfl, by go_num, by omega, ⟨by rw [HT.out]; have hs := HS.out.bad HNE.out HIN.out (by have := HP.out.2; omega); rwa [show min l pm = pm from by omega] at hs⟩, HM3, HK3, HB4⟩ | exact ⟨k + 1, g, l, sm, true, rfl, rfl, rfl, rfl, by go_num, by omega, ⟨by rw [HT.out]; have hs := HS.out.bad HNE.out HIN.out (by have := HP.out.2; omega); rwa [show min l pm = l from by omega] at hs⟩, HM3, HK3, HB4⟩
                · go_roundg (gk - 1)
                  case measure => omega
                  case rel => first | exact ⟨k + 1, g, pm, sm, true, rfl, rfl, rfl, rfl, by go_num, by omega, ⟨by rw [HT.out]; have hs := HS.out.bad HNE.out HIN.out (by have := HP.out.2; omega); rwa [show min l pm = pm from by omega] at hs⟩, HM3, HK3, HB4⟩ | exact ⟨k + 1, g, l, sm, true, rfl, rfl, rfl, rfl, by go_num, by omega, ⟨by rw [HT.out]; have hs := HS.out.bad HNE.out HIN.out (by have := HP.out.2; omega); rwa [show min l pm = l from by omega] at hs⟩, HM3, HK3, HB4⟩
              | false =>
                go_wp2_with (first
                  | (at_lookup; go_must (refine wpB_look2 rfl _ _ rfl rfl rfl HMA.out pm rfl HWF.out ?_; rw [HC.out]; simp only [Option.getD_none, Option.isSome_none]))
                  | (go_at_call 23; go_must (refine (contains_any _ _ _ ms pm _ (Kd.C_below HR.out HBA.out)).mono ?_; rintro e w2 ⟨rfl, hb⟩; rw [decide_eq_true HIN.out]; have hx2 := (hb.block _ (by simp)).trans HXA.out; have y0 := blk_cell hx2 0; have y1 := blk_cell hx2 1; have HX2 := Aside0.mk hx2; have HM2 := Aside0.mk (HMA.out.below hb); have HB2 := Aside0.mk (HBA.out.trans (hb.mono HBA.out.size)); have HK2 := Aside0.mk ((hb.block _ (blk_lt HKB.out)).trans HKB.out); clear hb hx2))
                  | (at_mapUpdate; go_must (refine wpB_put rfl _ _ _ rfl rfl rfl HM2.out (by unfold maxLen; omega) pm false rfl rfl HWF.out ?_; intro w3 hm3 hg3; have hx3 := (hg3.block _ (blk_lt HX2.out) (by simp; omega)).trans HX2.out; have HM3 := Aside0.mk hm3; rw [HF.out] at HM3; have HB4 := Aside0.mk (below_grown HB2.out HB2.out.size (Nat.le_refl _) hg3); have HK3 := Aside0.mk ((hg3.block _ (blk_lt HK2.out) (by simp; omega)).trans HK2.out); replace y0 := blk_cell hx3 0; replace y1 := blk_cell hx3 1; clear hm3 hg3 hx3 HM2 HB2 HK2 HX2)))
                · go_roundg (gk - 1)
                  case measure => omega
                  case rel => first | exact ⟨k + 1, pm, l, true, an, rfl, rfl, rfl, rfl, by go_num, by omega, ⟨by rw [HT.out]; have hs := HS.out.good HNE.out HIN.out HP.out.1; rwa [show max g pm = pm from by omega] at hs⟩, HM3, HK3, HB4⟩ | exact ⟨k + 1, g, l, true, an, rfl, rfl, rfl, rfl, by go_num, by omega, ⟨by rw [HT.out]; have hs := HS.out.good HNE.out HIN.out HP.out.1; rwa [show max g pm = g from by omega] at hs⟩, HM3, HK3, HB4⟩
                · go_roundg (gk - 1)
                  case measure => omega
                  case rel => first | exact ⟨k + 1, pm, l, true, an, rfl, rfl, rfl, rfl, by go_num, by omega, ⟨by rw [HT.out]; have hs := HS.out.good HNE.out HIN.out HP.out.1; rwa [show max g pm = pm from by omega] at hs⟩, HM3, HK3, HB4⟩ | exact ⟨k + 1, g, l, true, an, rfl, rfl, rfl, rfl, by go_num, by omega, ⟨by rw [HT.out]; have hs := HS.out.good HNE.out HIN.out HP.out.1; rwa [show max g pm = g from by omega] at hs⟩, HM3, HK3, HB4⟩
            · have HIN := Aside0.mk hin
              have HNO := Aside0.mk (stand_no_looks (m := m) (ok := ok) (L := L) (ms := ms) (fun hl => hin (hl.1 _ HME.out)))
              clear hin
              go_wp2_with (first
                | (at_lookup; go_must (refine wpB_look2 rfl _ _ rfl rfl rfl HMA.out pm rfl HWF.out ?_; rw [HC.out]; simp only [Option.getD_none, Option.isSome_none]))
                | (go_at_call 23; go_must (refine (contains_any _ _ _ ms pm _ (Kd.C_below HR.out HBA.out)).mono ?_; rintro e w2 ⟨rfl, hb⟩; rw [decide_eq_false HIN.out]; have hx2 := (hb.block _ (by simp)).trans HXA.out; have y0 := blk_cell hx2 0; have y1 := blk_cell hx2 1; have HX2 := Aside0.mk hx2; have HM2 := Aside0.mk (HMA.out.below hb); have HB2 := Aside0.mk (HBA.out.trans (hb.mono HBA.out.size)); have HK2 := Aside0.mk ((hb.block _ (blk_lt HKB.out)).trans HKB.out); clear hb hx2)))
              go_ret
              exact ⟨retB HNO.out.symm, HB3.out.trans (HB2.out.mono HB3.out.size)⟩
        · obtain rfl : k = L.length := by omega
          rw [List.take_length] at HS HMM
          have x0 : wr.cell? ⟨w.heap.size, 0, none⟩ = some (.int .u64 m) := blk_cell HKA.out 0
          have x1 : wr.cell? ⟨w.heap.size, 1, none⟩ = some (.bool ok) := blk_cell HKA.out 1
          by_cases hbad : sm = true ∧ an = true ∧ l < g
          · obtain ⟨rfl, rfl, hlg⟩ := hbad
            have HNO := Aside0.mk (stand_no_looks (m := m) (ok := ok) (HS.out.not rfl rfl hlg))
            go_wp2
            go_ret
            exact ⟨retB HNO.out.symm, HB3.out.trans (HB.out.mono HB3.out.size)⟩
          · have HL := Aside0.mk (HS.out.looks hbad)
            cases sm with
            | false =>
              clear hbad
              cases ok with
              | true =>
                cases hc : calledAs L m with
                | none =>
                  have HC := Aside0.mk hc
                  have HNO := Aside0.mk ((stand_borne (m := m) (ok := true) HI.out HL.out).trans (borne_none (fun h => by have := (calledAs_some HS.out.pw).2 h; rw [hc] at this; cases this)))
                  clear hc
                  go_wp2_with (at_lookup; go_must (refine wpB_look2 rfl _ _ rfl rfl rfl HMM.out m rfl HW.out.1 ?_; rw [HC.out]; simp only [Option.getD_none, Option.isSome_none]))
                  go_ret
                  exact ⟨retB HNO.out.symm, HB3.out.trans (HB.out.mono HB3.out.size)⟩
                | some b =>
                  cases b with
                  | true =>
                    have HC := Aside0.mk hc
                    have HNO := Aside0.mk ((stand_borne (m := m) (ok := true) HI.out HL.out).trans (borne_none (fun h => by have := (calledAs_some HS.out.pw).2 h; rw [hc] at this; cases this)))
                    clear hc
                    go_wp2_with (at_lookup; go_must (refine wpB_look2 rfl _ _ rfl rfl rfl HMM.out m rfl HW.out.1 ?_; rw [HC.out]; simp only [Option.getD_some, Option.isSome_some]))
                    go_ret
                    exact ⟨retB HNO.out.symm, HB3.out.trans (HB.out.mono HB3.out.size)⟩
                  | false =>
                    have HC := Aside0.mk hc
                    have HME := Aside0.mk ((calledAs_some HS.out.pw).1 hc)
                    obtain ⟨q, hq, he⟩ := mem_nth (HL.out.1 _ HME.out)
                    have HBO := Aside0.mk ((stand_borne (m := m) (ok := true) HI.out HL.out).trans (borne_yes HI.out hq he HME.out))
                    have HQ := Aside0.mk he
                    clear hc he
                    by_cases hqn : q + 1 < ms.length
                    · have f5 : ((q : Int) + 1 == (ms.length : Int)) = false := beq_eq_false_iff_ne.2 (by omega)
                      have hi0 : (0 : Int) ≤ (q : Int) + 1 := by omega
                      have hi1 : (q : Int) + 1 < (ms.length : Int) := by omega
                      obtain ⟨ad, rfl, hcc⟩ := C_at HR.out (q + 1) hqn
                      have hae := add_in ad q
                      rw [hae] at hcc
                      have HCC := Aside0.mk (pw_cell_below HB.out hcc)
                      clear hae hcc
                      go_wp2_with (first
                        | (at_lookup; first | ((with_reducible refine wpB_look2 rfl _ _ rfl rfl rfl HMM.out m rfl HW.out.1 ?_); rw [HC.out]; simp only [Option.getD_some, Option.isSome_some]) | go_must ((try (refine gate_guard (by rfl) ?_; dsimp only)); refine wpB_look rfl _ _ rfl rfl rfl HM6.out (nth ms (q + 1)) rfl (HW.out.2.2 _ (nth_mem hqn)) ?_; rw [getD_bad HS.out.pw]))
                        | (go_at_call 24; go_must (refine (index_any _ _ _ ms m _ (Kd.C_below HR.out HB.out)).mono ?_; rintro e w6 ⟨r, rfl, hix, hb⟩; rcases hix with ⟨hno, _⟩ | ⟨q', hq', he', rfl⟩; exact absurd (HL.out.1 _ HME.out) hno; obtain rfl : q = q' := (inc_inj HI.out hq hq' (HQ.out.trans he'.symm)); have x6 := pw_cell_below hb HCC.out; have HM6 := Aside0.mk (HMM.out.below hb); have HB6 := Aside0.mk (HB.out.trans (hb.mono HB.out.size)); have z0 := pw_cell_below hb x0; clear hb he')))
                      go_ret
                      refine ⟨retB (Eq.trans ?_ HBO.out.symm), HB3.out.trans (HB6.out.mono HB3.out.size)⟩
                      exact decide_eq_decide.2 ⟨fun h _ => h, fun h => h hqn⟩
                    · have f5 : ((q : Int) + 1 == (ms.length : Int)) = true := beq_iff_eq.2 (by omega)
                      go_wp2_with (first
                        | (at_lookup; ((with_reducible refine wpB_look2 rfl _ _ rfl rfl rfl HMM.out m rfl HW.out.1 ?_); rw [HC.out]; simp only [Option.getD_some, Option.isSome_some]))
                        | (go_at_call 24; go_must (refine (index_any _ _ _ ms m _ (Kd.C_below HR.out HB.out)).mono ?_; rintro e w6 ⟨r, rfl, hix, hb⟩; rcases hix with ⟨hno, _⟩ | ⟨q', hq', he', rfl⟩; exact absurd (HL.out.1 _ HME.out) hno; obtain rfl : q = q' := (inc_inj HI.out hq hq' (HQ.out.trans he'.symm)); have HB6 := Aside0.mk (HB.out.trans (hb.mono HB.out.size)); have z0 := pw_cell_below hb x0; clear hb he')))
                      go_ret
                      refine ⟨retB (Eq.trans ?_ HBO.out.symm), HB3.out.trans (HB6.out.mono HB3.out.size)⟩
                      exact (decide_eq_true (fun h => absurd h hqn)).symm
              | false =>
                have HBO := Aside0.mk ((stand_borne (m := m) (ok := false) HI.out HL.out).trans borne_off)
                by_cases hm0 : m = 0
                · by_cases hl0 : 0 < ms.length
                  · obtain ⟨ad, rfl, _⟩ := C_at HR.out 0 hl0
                    have HCC := pw_cell_below HB.out (C_at0 HR.out hl0)
                    have f5 : ((0 : Int) == (ms.length : Int)) = false := beq_eq_false_iff_ne.2 (by omega)
                    have hi1 : (0 : Int) < (ms.length : Int) := by omega
                    have hM0 := Aside0.mk hm0
                    subst hm0
                    go_wp2_with (at_lookup; go_must ((try (refine gate_guard (by rfl) ?_; dsimp only)); refine wpB_look rfl _ _ rfl rfl rfl HMM.out (nth ms 0) rfl (HW.out.2.2 _ (nth_mem hl0)) ?_; rw [getD_bad HS.out.pw]))
                    go_ret
                    refine ⟨retB (Eq.trans ?_ HBO.out.symm), HB3.out.trans (HB.out.mono HB3.out.size)⟩
                    exact decide_eq_decide.2 ⟨fun h => ⟨by trivial, fun _ => h⟩, fun h => h.2 hl0⟩
                  · have f5 : ((0 : Int) == (ms.length : Int)) = true := beq_iff_eq.2 (by omega)
                    have hM0 := Aside0.mk hm0
                    subst hm0
                    go_wp2
                    go_ret
                    refine ⟨retB (Eq.trans ?_ HBO.out.symm), HB3.out.trans (HB.out.mono HB3.out.size)⟩
                    exact (decide_eq_true ⟨by trivial, fun h => absurd h hl0⟩).symm
                · go_wp2
                  go_ret
                  refine ⟨retB (Eq.trans ?_ HBO.out.symm), HB3.out.trans (HB.out.mono HB3.out.size)⟩
                  exact (decide_eq_false (fun h => hm0 h.1)).symm
            | true =>
              cases an with
              | false =>
                clear hbad
                cases ok with
                | true =>
                  cases hc : calledAs L m with
                  | none =>
                    have HC := Aside0.mk hc
                    have HNO := Aside0.mk ((stand_borne (m := m) (ok := true) HI.out HL.out).trans (borne_none (fun h => by have := (calledAs_some HS.out.pw).2 h; rw [hc] at this; cases this)))
                    clear hc
                    go_wp2_with (at_lookup; go_must (refine wpB_look2 rfl _ _ rfl rfl rfl HMM.out m rfl HW.out.1 ?_; rw [HC.out]; simp only [Option.getD_none, Option.isSome_none]))
                    go_ret
                    exact ⟨retB HNO.out.symm, HB3.out.trans (HB.out.mono HB3.out.size)⟩
                  | some b =>
                    cases b with
                    | true =>
                      have HC := Aside0.mk hc
                      have HNO := Aside0.mk ((stand_borne (m := m) (ok := true) HI.out HL.out).trans (borne_none (fun h => by have := (calledAs_some HS.out.pw).2 h; rw [hc] at this; cases this)))
                      clear hc
                      go_wp2_with (at_lookup; go_must (refine wpB_look2 rfl _ _ rfl rfl rfl HMM.out m rfl HW.out.1 ?_; rw [HC.out]; simp only [Option.getD_some, Option.isSome_some]))
                      go_ret
                      exact ⟨retB HNO.out.symm, HB3.out.trans (HB.out.mono HB3.out.size)⟩
                    | false =>
                      have HC := Aside0.mk hc
                      have HME := Aside0.mk ((calledAs_some HS.out.pw).1 hc)
                      obtain ⟨q, hq, he⟩ := mem_nth (HL.out.1 _ HME.out)
                      have HBO := Aside0.mk ((stand_borne (m := m) (ok := true) HI.out HL.out).trans (borne_yes HI.out hq he HME.out))
                      have HQ := Aside0.mk he
                      clear hc he
                      by_cases hqn : q + 1 < ms.length
                      · have f5 : ((q : Int) + 1 == (ms.length : Int)) = false := beq_eq_false_iff_ne.2 (by omega)
                        have hi0 : (0 : Int) ≤ (q : Int) + 1 := by omega
                        have hi1 : (q : Int) + 1 < (ms.length : Int) := by omega
                        obtain ⟨ad, rfl, hcc⟩ := C_at HR.out (q + 1) hqn
                        have hae := add_in ad q
                        rw [hae] at hcc
                        have HCC := Aside0.mk (pw_cell_below HB.out hcc)
                        clear hae hcc
                        go_wp2_with (first
                          | (at_lookup; first | ((with_reducible refine wpB_look2 rfl _ _ rfl rfl rfl HMM.out m rfl HW.out.1 ?_); rw [HC.out]; simp only [Option.getD_some, Option.isSome_some]) | go_must ((try (refine gate_guard (by rfl) ?_; dsimp only)); refine wpB_look rfl _ _ rfl rfl rfl HM6.out (nth ms (q + 1)) rfl (HW.out.2.2 _ (nth_mem hqn)) ?_; rw [getD_bad HS.out.pw]))
                          | (go_at_call 24; go_must (refine (index_any _ _ _ ms m _ (Kd.C_below HR.out HB.out)).mono ?_; rintro e w6 ⟨r, rfl, hix, hb⟩; rcases hix with ⟨hno, _⟩ | ⟨q', hq', he', rfl⟩; exact absurd (HL.out.1 _ HME.out) hno; obtain rfl : q = q' := (inc_inj HI.out hq hq' (HQ.out.trans he'.symm)); have x6 := pw_cell_below hb HCC.out; have HM6 := Aside0.mk (HMM.out.below hb); have HB6 := Aside0.mk (HB.out.trans (hb.mono HB.out.size)); have z0 := pw_cell_below hb x0; clear hb he')))
                        go_ret
                        refine ⟨retB (Eq.trans ?_ HBO.out.symm), HB3.out.trans (HB6.out.mono HB3.out.size)⟩
                        exact decide_eq_decide.2 ⟨fun h _ => h, fun h => h hqn⟩
                      · have f5 : ((q : Int) + 1 == (ms.length : Int)) = true := beq_iff_eq.2 (by omega)
                        go_wp2_with (first
                          | (at_lookup; ((with_reducible refine wpB_look2 rfl _ _ rfl rfl rfl HMM.out m rfl HW.out.1 ?_); rw [HC.out]; simp only [Option.getD_some, Option.isSome_some]))
                          | (go_at_call 24; go_must (refine (index_any _ _ _ ms m _ (Kd.C_below HR.out HB.out)).mono ?_; rintro e w6 ⟨r, rfl, hix, hb⟩; rcases hix with ⟨hno, _⟩ | ⟨q', hq', he', rfl⟩; exact absurd (HL.out.1 _ HME.out) hno; obtain rfl : q = q' := (inc_inj HI.out hq hq' (HQ.out.trans he'.symm)); have HB6 := Aside0.mk (HB.out.trans (hb.mono HB.out.size)); have z0 := pw_cell_below hb x0; clear hb he')))
                        go_ret
                        refine ⟨retB (Eq.trans ?_ HBO.out.symm), HB3.out.trans (HB6.out.mono HB3.out.size)⟩
                        exact (decide_eq_true (fun h => absurd h hqn)).symm
                | false =>
                  have HBO := Aside0.mk ((stand_borne (m := m) (ok := false) HI.out HL.out).trans borne_off)
                  by_cases hm0 : m = 0
                  · by_cases hl0 : 0 < ms.length
                    · obtain ⟨ad, rfl, _⟩ := C_at HR.out 0 hl0
                      have HCC := pw_cell_below HB.out (C_at0 HR.out hl0)
                      have f5 : ((0 : Int) == (ms.length : Int)) = false := beq_eq_false_iff_ne.2 (by omega)
                      have hi1 : (0 : Int) < (ms.length : Int) := by omega
                      have hM0 := Aside0.mk hm0
                      subst hm0
                      go_wp2_with (at_lookup; go_must ((try (refine gate_guard (by rfl) ?_; dsimp only)); refine wpB_look rfl _ _ rfl rfl rfl HMM.out (nth ms 0) rfl (HW.out.2.2 _ (nth_mem hl0)) ?_; rw [getD_bad HS.out.pw]))
                      go_ret
                      refine ⟨retB (Eq.trans ?_ HBO.out.symm), HB3.out.trans (HB.out.mono HB3.out.size)⟩
                      exact decide_eq_decide.2 ⟨fun h => ⟨by trivial, fun _ => h⟩, fun h => h.2 hl0⟩
                    · have f5 : ((0 : Int) == (ms.length : Int)) = true := beq_iff_eq.2 (by omega)
                      have hM0 := Aside0.mk hm0
                      subst hm0
                      go_wp2
                      go_ret
                      refine ⟨retB (Eq.trans ?_ HBO.out.symm), HB3.out.trans (HB.out.mono HB3.out.size)⟩
                      exact (decide_eq_true ⟨by trivial, fun h => absurd h hl0⟩).symm
                  · go_wp2
                    go_ret
                    refine ⟨retB (Eq.trans ?_ HBO.out.symm), HB3.out.trans (HB.out.mono HB3.out.size)⟩
                    exact (decide_eq_false (fun h => hm0 h.1)).symm
              | true =>
                have hlg : ¬ l < g := fun h => hbad ⟨rfl, rfl, h⟩
                clear hbad
                cases ok with
                | true =>
                  cases hc : calledAs L m with
                  | none =>
                    have HC := Aside0.mk hc
                    have HNO := Aside0.mk ((stand_borne (m := m) (ok := true) HI.out HL.out).trans (borne_none (fun h => by have := (calledAs_some HS.out.pw).2 h; rw [hc] at this; cases this)))
                    clear hc
                    go_wp2_with (at_lookup; go_must (refine wpB_look2 rfl _ _ rfl rfl rfl HMM.out m rfl HW.out.1 ?_; rw [HC.out]; simp only [Option.getD_none, Option.isSome_none]))
                    go_ret
                    exact ⟨retB HNO.out.symm, HB3.out.trans (HB.out.mono HB3.out.size)⟩
                  | some b =>
                    cases b with
                    | true =>
                      have HC := Aside0.mk hc
                      have HNO := Aside0.mk ((stand_borne (m := m) (ok := true) HI.out HL.out).trans (borne_none (fun h => by have := (calledAs_some HS.out.pw).2 h; rw [hc] at this; cases this)))
                      clear hc
                      go_wp2_with (at_lookup; go_must (refine wpB_look2 rfl _ _ rfl rfl rfl HMM.out m rfl HW.out.1 ?_; rw [HC.out]; simp only [Option.getD_some, Option.isSome_some]))
                      go_ret
                      exact ⟨retB HNO.out.symm, HB3.out.trans (HB.out.mono HB3.out.size)⟩
                    | false =>
                      have HC := Aside0.mk hc
                      have HME := Aside0.mk ((calledAs_some HS.out.pw).1 hc)
                      obtain ⟨q, hq, he⟩ := mem_nth (HL.out.1 _ HME.out)
                      have HBO := Aside0.mk ((stand_borne (m := m) (ok := true) HI.out HL.out).trans (borne_yes HI.out hq he HME.out))
                      have HQ := Aside0.mk he
                      clear hc he
                      by_cases hqn : q + 1 < ms.length
                      · have f5 : ((q : Int) + 1 == (ms.length : Int)) = false := beq_eq_false_iff_ne.2 (by omega)
                        have hi0 : (0 : Int) ≤ (q : Int) + 1 := by omega
                        have hi1 : (q : Int) + 1 < (ms.length : Int) := by omega
                        obtain ⟨ad, rfl, hcc⟩ := C_at HR.out (q + 1) hqn
                        have hae := add_in ad q
                        rw [hae] at hcc
                        have HCC := Aside0.mk (pw_cell_below HB.out hcc)
                        clear hae hcc
                        go_wp2_with (first
                          | (at_lookup; first | ((with_reducible refine wpB_look2 rfl _ _ rfl rfl rfl HMM.out m rfl HW.out.1 ?_); rw [HC.out]; simp only [Option.getD_some, Option.isSome_some]) | go_must ((try (refine gate_guard (by rfl) ?_; dsimp only)); refine wpB_look rfl _ _ rfl rfl rfl HM6.out (nth ms (q + 1)) rfl (HW.out.2.2 _ (nth_mem hqn)) ?_; rw [getD_bad HS.out.pw]))
                          | (go_at_call 24; go_must (refine (index_any _ _ _ ms m _ (Kd.C_below HR.out HB.out)).mono ?_; rintro e w6 ⟨r, rfl, hix, hb⟩; rcases hix with ⟨hno, _⟩ | ⟨q', hq', he', rfl⟩; exact absurd (HL.out.1 _ HME.out) hno; obtain rfl : q = q' := (inc_inj HI.out hq hq' (HQ.out.trans he'.symm)); have x6 := pw_cell_below hb HCC.out; have HM6 := Aside0.mk (HMM.out.below hb); have HB6 := Aside0.mk (HB.out.trans (hb.mono HB.out.size)); have z0 := pw_cell_below hb x0; clear hb he')))
                        go_ret
                        refine ⟨retB (Eq.trans ?_ HBO.out.symm), HB3.out.trans (HB6.out.mono HB3.out.size)⟩
                        exact decide_eq_decide.2 ⟨fun h _ => h, fun h => h hqn⟩
                      · have f5 : ((q : Int) + 1 == (ms.length : Int)) = true := beq_iff_eq.2 (by omega)
                        go_wp2_with (first
                          | (at_lookup; ((with_reducible refine wpB_look2 rfl _ _ rfl rfl rfl HMM.out m rfl HW.out.1 ?_); rw [HC.out]; simp only [Option.getD_some, Option.isSome_some]))
                          | (go_at_call 24; go_must (refine (index_any _ _ _ ms m _ (Kd.C_below HR.out HB.out)).mono ?_; rintro e w6 ⟨r, rfl, hix, hb⟩; rcases hix with ⟨hno, _⟩ | ⟨q', hq', he', rfl⟩; exact absurd (HL.out.1 _ HME.out) hno; obtain rfl : q = q' := (inc_inj HI.out hq hq' (HQ.out.trans he'.symm)); have HB6 := Aside0.mk (HB.out.trans (hb.mono HB.out.size)); have z0 := pw_cell_below hb x0; clear hb he')))
                        go_ret
                        refine ⟨retB (Eq.trans ?_ HBO.out.symm), HB3.out.trans (HB6.out.mono HB3.out.size)⟩
                        exact (decide_eq_true (fun h => absurd h hqn)).symm
                | false =>
                  have HBO := Aside0.mk ((stand_borne (m := m) (ok := false) HI.out HL.out).trans borne_off)
                  by_cases hm0 : m = 0
                  · by_cases hl0 : 0 < ms.length
                    · obtain ⟨ad, rfl, _⟩ := C_at HR.out 0 hl0
                      have HCC := pw_cell_below HB.out (C_at0 HR.out hl0)
                      have f5 : ((0 : Int) == (ms.length : Int)) = false := beq_eq_false_iff_ne.2 (by omega)
                      have hi1 : (0 : Int) < (ms.length : Int) := by omega
                      have hM0 := Aside0.mk hm0
                      subst hm0
                      go_wp2_with (at_lookup; go_must ((try (refine gate_guard (by rfl) ?_; dsimp only)); refine wpB_look rfl _ _ rfl rfl rfl HMM.out (nth ms 0) rfl (HW.out.2.2 _ (nth_mem hl0)) ?_; rw [getD_bad HS.out.pw]))
                      go_ret
                      refine ⟨retB (Eq.trans ?_ HBO.out.symm), HB3.out.trans (HB.out.mono HB3.out.size)⟩
                      exact decide_eq_decide.2 ⟨fun h => ⟨by trivial, fun _ => h⟩, fun h => h.2 hl0⟩
                    · have f5 : ((0 : Int) == (ms.length : Int)) = true := beq_iff_eq.2 (by omega)
                      have hM0 := Aside0.mk hm0
                      subst hm0
                      go_wp2
                      go_ret
                      refine ⟨retB (Eq.trans ?_ HBO.out.symm), HB3.out.trans (HB.out.mono HB3.out.size)⟩
                      exact (decide_eq_true ⟨by trivial, fun h => absurd h hl0⟩).symm
                  · go_wp2
                    go_ret
                    refine ⟨retB (Eq.trans ?_ HBO.out.symm), HB3.out.trans (HB.out.mono HB3.out.size)⟩
                    exact (decide_eq_false (fun h => hm0 h.1)).symm
end Go.Proofs.Ytoojmbifkjocfaa.Proof
