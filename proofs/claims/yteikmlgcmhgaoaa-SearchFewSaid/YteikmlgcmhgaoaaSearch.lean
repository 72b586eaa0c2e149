/- What the functions of layer 52 (search) answer: rise, the closures of the statements, look, Last, Each. Conditions stand in each statement. -/
import Derived.Test.YteikmlgcmhgaoaaKit
import Derived.Test.YteikmlgcmhgaoaaSearchPlain
import Derived.IntWalk
import Derived.Outline
import Derived.Deep.DeepMust
namespace Go.Proofs.Yteikmlgcmhgaoaa.Search
open Go.RowKit Go.Proofs.YteikmlgcmhgaoaaW.PrintWords Go.Proofs.YteikmlgcmhgaoaaW.PrintLast Go.Proofs.YteikmlgcmhgaoaaW.PrintMore Go.Proofs.Yteikmlgcmhgaoaa.Kit Go.Proofs.Yteikmlgcmhgaoaa.Plain
set_option linter.unusedVariables false
set_option linter.unusedSimpArgs false

/-- A slice of moments that is read. -/
abbrev RdM (w : World) (A : Option Addr) (n : Nat) (l : List Int) : Prop := Kd.C (Kd.int .u64) w A n l

def tabRise : Bool × List (List Nat × List Nat) := (true, [([], []), ([], []), ([0, 1], [0, 1]), ([2], [2]), ([], []), ([], []), ([5], [5]), ([4, 6], [4, 6]), ([7], [7]), ([3, 8], [3, 8])])
theorem tabRise_ok : rtab .any (opsOf Try.f23 4) = tabRise := by kernel_rfl
set_option maxHeartbeats 800000 in
set_option maxRecDepth 100000 in
theorem rise_any (A : Option Addr) (n c : Nat) (l : List Int) (w : World) (hr : RdM w A n l) :
    Calls Try.prog 23 #[.slice A n c] w fun e w' => e = .returned (.bool (riseB l)) ∧ Below w.heap.size w w' := by
  obtain rfl := C_len hr
  have HB := Aside0.mk (Below.refl w.heap.size w)
  have hm := C_max hr
  have HR := Aside0.mk hr
  clear hr
  go_enter Try.func23, Try.ntmps23
  go_wp2
  go_loopg [3] l.length (fun gk v w' => ∃ j : Nat, v = .int .i64 ((j : Int) + 1) ∧ (j + gk = l.length ∨ (j = 0 ∧ gk = 0 ∧ l.length = 0)) ∧ Aside0 (∀ i, i < j → i + 1 < l.length → nth l i < nth l (i + 1)) ∧ Aside0 (Below w.heap.size w w'))
  case atStart => exact ⟨0, rfl, .inl (by omega), ⟨fun i hi => by omega⟩, HB⟩
  case round =>
    clear HB
    obtain ⟨j, rfl, hj, HJ, HB⟩ := hrel
    by_cases hlt : j + 1 < l.length
    · obtain ⟨ad, rfl, hc1⟩ := C_at HR.out j (by omega)
      obtain ⟨ad', he', hc2⟩ := C_at HR.out (j + 1) (by omega)
      injection he' with he'
      subst he'
      have hae : ad.add (j + 1) = ⟨ad.block, ad.off + (j + 1), none⟩ := by unfold Addr.add; split <;> simp_all
      rw [hae] at hc2
      have HC1 := Aside0.mk hc1
      have HC2 := Aside0.mk hc2
      clear hc1 hc2 hae
      have e4 : IntKind.i64.wrap ((j : Int) + 1 - 1) = (j : Int) := by rw [IntWalk.i64_in _ (by omega)]; omega
      have e5 : (j : Int) + 1 - 1 = (j : Int) := by omega
      have e6 : IntKind.i64.wrap (j : Int) = (j : Int) := IntWalk.i64_in _ (by omega)
      have hi0 : 0 ≤ (j : Int) + 1 := by omega
      have hi1 : (j : Int) + 1 < (l.length : Int) := by omega
      have hi2 : (j : Int) < (l.length : Int) := by omega
      by_cases hn : nth l j < nth l (j + 1)
      · have f1 : decide (nth l (j + 1) ≤ nth l j) = false := decide_eq_false (by omega)
        have HN := Aside0.mk hn
        clear hn
        go_wp2_with (fail)
        refine start_ (n := 10) (S := fun w' => w'.cell? (ad.add j) = some (.int .u64 (nth l j)) ∧ w'.cell? ⟨ad.block, ad.off + (j + 1), none⟩ = some (.int .u64 (nth l (j + 1)))) (ds := []) #[false, false, false, false, false, false, false, false, false, false] (by kernel_rfl) rfl rfl ⟨pw_cell_below (below_drew HB.out) HC1.out, pw_cell_below (below_drew HB.out) HC2.out⟩ (fun hHeld => ?_); refine with_tab tabRise_ok (fun HT_ => ?_)
        have hb : Below wr.heap.size wr wr.drew := below_drew (Below.refl _ _)
        replace HB := Aside0.mk (HB.out.trans (hb.mono HB.out.size))
        clear hb
        refine pure_ (i := 0) (N := some 10) (v := ?_) (a' := ?_) #[true, false, false, false, false, false, false, false, false, false] rfl rfl (any_of HT_.out (by kernel_rfl)) (fun _ _ _ h => h) (Or.inl ⟨by rfl, ?_⟩) ?_ ?_
        rotate_left
        · intro w'
          go_simp
          with_reducible rfl
        rotate_left
        · simp only [Act.put, List.setIfInBounds_toArray, List.set_cons_zero, List.set_cons_succ]
          rfl
        refine pure_ (i := 1) (N := some 11) (v := ?_) (a' := ?_) #[true, true, false, false, false, false, false, false, false, false] rfl rfl (any_of HT_.out (by kernel_rfl)) (fun _ _ _ h => h) (Or.inl ⟨by rfl, ?_⟩) ?_ ?_
        rotate_left
        · intro w'
          go_simp
          with_reducible rfl
        rotate_left
        · simp only [Act.put, List.setIfInBounds_toArray, List.set_cons_zero, List.set_cons_succ]
          rfl
        refine pure_ (i := 2) (N := some 12) (v := ?_) (a' := ?_) #[true, true, true, false, false, false, false, false, false, false] rfl rfl (any_of HT_.out (by kernel_rfl)) (fun _ _ _ h => h) (Or.inl ⟨by rfl, ?_⟩) ?_ ?_
        rotate_left
        · intro w'
          go_simp
          with_reducible rfl
        rotate_left
        · simp only [Act.put, List.setIfInBounds_toArray, List.set_cons_zero, List.set_cons_succ]
          rfl
        refine take_ (i := 3) (N := some 13) (v := ?_) (a' := ?_) #[true, true, true, true, false, false, false, false, false, false] rfl rfl (take_of HT_.out (by kernel_rfl)) (fun _ _ _ h => h) (Or.inl ⟨by rfl, ?_⟩) hHeld ?_ ?_
        rotate_left
        · intro w' hw'
          obtain ⟨hw1, hw2⟩ := hw'
          go_simp
          with_reducible rfl
        rotate_left
        · simp only [Act.put, List.setIfInBounds_toArray, List.set_cons_zero, List.set_cons_succ]
          rfl
        refine pure_ (i := 4) (N := some 14) (v := ?_) (a' := ?_) #[true, true, true, true, true, false, false, false, false, false] rfl rfl (any_of HT_.out (by kernel_rfl)) (fun _ _ _ h => h) (Or.inl ⟨by rfl, ?_⟩) ?_ ?_
        rotate_left
        · intro w'
          go_simp
          with_reducible rfl
        rotate_left
        · simp only [Act.put, List.setIfInBounds_toArray, List.set_cons_zero, List.set_cons_succ]
          rfl
        refine pure_ (i := 5) (N := some 15) (v := ?_) (a' := ?_) #[true, true, true, true, true, true, false, false, false, false] rfl rfl (any_of HT_.out (by kernel_rfl)) (fun _ _ _ h => h) (Or.inl ⟨by rfl, ?_⟩) ?_ ?_
        rotate_left
        · intro w'
          go_simp
          with_reducible rfl
        rotate_left
        · simp only [Act.put, List.setIfInBounds_toArray, List.set_cons_zero, List.set_cons_succ]
          rfl
        refine pure_ (i := 6) (N := some 16) (v := ?_) (a' := ?_) #[true, true, true, true, true, true, true, false, false, false] rfl rfl (any_of HT_.out (by kernel_rfl)) (fun _ _ _ h => h) (Or.inl ⟨by rfl, ?_⟩) ?_ ?_
        rotate_left
        · intro w'
          go_simp
          with_reducible rfl
        rotate_left
        · simp only [Act.put, List.setIfInBounds_toArray, List.set_cons_zero, List.set_cons_succ]
          rfl
        refine pure_ (i := 7) (N := some 17) (v := ?_) (a' := ?_) #[true, true, true, true, true, true, true, true, false, false] rfl rfl (any_of HT_.out (by kernel_rfl)) (fun _ _ _ h => h) (Or.inl ⟨by rfl, ?_⟩) ?_ ?_
        rotate_left
        · intro w'
          go_simp
          with_reducible rfl
        rotate_left
        · simp only [Act.put, List.setIfInBounds_toArray, List.set_cons_zero, List.set_cons_succ]
          rfl
        refine take_ (i := 8) (N := some 18) (v := ?_) (a' := ?_) #[true, true, true, true, true, true, true, true, true, false] rfl rfl (take_of HT_.out (by kernel_rfl)) (fun _ _ _ h => h) (Or.inl ⟨by rfl, ?_⟩) hHeld ?_ ?_
        rotate_left
        · intro w' hw'
          obtain ⟨hw1, hw2⟩ := hw'
          go_simp
          with_reducible rfl
        rotate_left
        · simp only [Act.put, List.setIfInBounds_toArray, List.set_cons_zero, List.set_cons_succ]
          rfl
        refine pure_ (i := 9) (N := some 19) (v := ?_) (a' := ?_) #[true, true, true, true, true, true, true, true, true, true] rfl rfl (any_of HT_.out (by kernel_rfl)) (fun _ _ _ h => h) (Or.inl ⟨by rfl, ?_⟩) ?_ ?_
        rotate_left
        · intro w'
          go_simp
          with_reducible rfl
        rotate_left
        · simp only [Act.put, List.setIfInBounds_toArray, List.set_cons_zero, List.set_cons_succ]
          rfl
        refine done_ (done_of HT_.out (by kernel_rfl)) ?_
        clear HT_ hHeld e4 e5 e6 hi0 hi1 hi2
        go_wp2
        go_roundg (gk - 1)
        case measure => omega
        case rel => exact ⟨j + 1, by go_num, .inl (by omega), ⟨fun i hi hi2 => by
            rcases Nat.lt_or_ge i j with h | h
            · exact HJ.out i h hi2
            · obtain rfl : i = j := by omega
              exact HN.out⟩, HB⟩
      · have f1 : decide (nth l (j + 1) ≤ nth l j) = true := decide_eq_true (by omega)
        have HN := Aside0.mk (riseB_no hlt hn)
        clear hn
        go_wp2_with (fail)
        refine start_ (n := 10) (S := fun w' => w'.cell? (ad.add j) = some (.int .u64 (nth l j)) ∧ w'.cell? ⟨ad.block, ad.off + (j + 1), none⟩ = some (.int .u64 (nth l (j + 1)))) (ds := []) #[false, false, false, false, false, false, false, false, false, false] (by kernel_rfl) rfl rfl ⟨pw_cell_below (below_drew HB.out) HC1.out, pw_cell_below (below_drew HB.out) HC2.out⟩ (fun hHeld => ?_); refine with_tab tabRise_ok (fun HT_ => ?_)
        have hb : Below wr.heap.size wr wr.drew := below_drew (Below.refl _ _)
        replace HB := Aside0.mk (HB.out.trans (hb.mono HB.out.size))
        clear hb
        refine pure_ (i := 0) (N := some 10) (v := ?_) (a' := ?_) #[true, false, false, false, false, false, false, false, false, false] rfl rfl (any_of HT_.out (by kernel_rfl)) (fun _ _ _ h => h) (Or.inl ⟨by rfl, ?_⟩) ?_ ?_
        rotate_left
        · intro w'
          go_simp
          with_reducible rfl
        rotate_left
        · simp only [Act.put, List.setIfInBounds_toArray, List.set_cons_zero, List.set_cons_succ]
          rfl
        refine pure_ (i := 1) (N := some 11) (v := ?_) (a' := ?_) #[true, true, false, false, false, false, false, false, false, false] rfl rfl (any_of HT_.out (by kernel_rfl)) (fun _ _ _ h => h) (Or.inl ⟨by rfl, ?_⟩) ?_ ?_
        rotate_left
        · intro w'
          go_simp
          with_reducible rfl
        rotate_left
        · simp only [Act.put, List.setIfInBounds_toArray, List.set_cons_zero, List.set_cons_succ]
          rfl
        refine pure_ (i := 2) (N := some 12) (v := ?_) (a' := ?_) #[true, true, true, false, false, false, false, false, false, false] rfl rfl (any_of HT_.out (by kernel_rfl)) (fun _ _ _ h => h) (Or.inl ⟨by rfl, ?_⟩) ?_ ?_
        rotate_left
        · intro w'
          go_simp
          with_reducible rfl
        rotate_left
        · simp only [Act.put, List.setIfInBounds_toArray, List.set_cons_zero, List.set_cons_succ]
          rfl
        refine take_ (i := 3) (N := some 13) (v := ?_) (a' := ?_) #[true, true, true, true, false, false, false, false, false, false] rfl rfl (take_of HT_.out (by kernel_rfl)) (fun _ _ _ h => h) (Or.inl ⟨by rfl, ?_⟩) hHeld ?_ ?_
        rotate_left
        · intro w' hw'
          obtain ⟨hw1, hw2⟩ := hw'
          go_simp
          with_reducible rfl
        rotate_left
        · simp only [Act.put, List.setIfInBounds_toArray, List.set_cons_zero, List.set_cons_succ]
          rfl
        refine pure_ (i := 4) (N := some 14) (v := ?_) (a' := ?_) #[true, true, true, true, true, false, false, false, false, false] rfl rfl (any_of HT_.out (by kernel_rfl)) (fun _ _ _ h => h) (Or.inl ⟨by rfl, ?_⟩) ?_ ?_
        rotate_left
        · intro w'
          go_simp
          with_reducible rfl
        rotate_left
        · simp only [Act.put, List.setIfInBounds_toArray, List.set_cons_zero, List.set_cons_succ]
          rfl
        refine pure_ (i := 5) (N := some 15) (v := ?_) (a' := ?_) #[true, true, true, true, true, true, false, false, false, false] rfl rfl (any_of HT_.out (by kernel_rfl)) (fun _ _ _ h => h) (Or.inl ⟨by rfl, ?_⟩) ?_ ?_
        rotate_left
        · intro w'
          go_simp
          with_reducible rfl
        rotate_left
        · simp only [Act.put, List.setIfInBounds_toArray, List.set_cons_zero, List.set_cons_succ]
          rfl
        refine pure_ (i := 6) (N := some 16) (v := ?_) (a' := ?_) #[true, true, true, true, true, true, true, false, false, false] rfl rfl (any_of HT_.out (by kernel_rfl)) (fun _ _ _ h => h) (Or.inl ⟨by rfl, ?_⟩) ?_ ?_
        rotate_left
        · intro w'
          go_simp
          with_reducible rfl
        rotate_left
        · simp only [Act.put, List.setIfInBounds_toArray, List.set_cons_zero, List.set_cons_succ]
          rfl
        refine pure_ (i := 7) (N := some 17) (v := ?_) (a' := ?_) #[true, true, true, true, true, true, true, true, false, false] rfl rfl (any_of HT_.out (by kernel_rfl)) (fun _ _ _ h => h) (Or.inl ⟨by rfl, ?_⟩) ?_ ?_
        rotate_left
        · intro w'
          go_simp
          with_reducible rfl
        rotate_left
        · simp only [Act.put, List.setIfInBounds_toArray, List.set_cons_zero, List.set_cons_succ]
          rfl
        refine take_ (i := 8) (N := some 18) (v := ?_) (a' := ?_) #[true, true, true, true, true, true, true, true, true, false] rfl rfl (take_of HT_.out (by kernel_rfl)) (fun _ _ _ h => h) (Or.inl ⟨by rfl, ?_⟩) hHeld ?_ ?_
        rotate_left
        · intro w' hw'
          obtain ⟨hw1, hw2⟩ := hw'
          go_simp
          with_reducible rfl
        rotate_left
        · simp only [Act.put, List.setIfInBounds_toArray, List.set_cons_zero, List.set_cons_succ]
          rfl
        refine pure_ (i := 9) (N := some 19) (v := ?_) (a' := ?_) #[true, true, true, true, true, true, true, true, true, true] rfl rfl (any_of HT_.out (by kernel_rfl)) (fun _ _ _ h => h) (Or.inl ⟨by rfl, ?_⟩) ?_ ?_
        rotate_left
        · intro w'
          go_simp
          with_reducible rfl
        rotate_left
        · simp only [Act.put, List.setIfInBounds_toArray, List.set_cons_zero, List.set_cons_succ]
          rfl
        refine done_ (done_of HT_.out (by kernel_rfl)) ?_
        clear HT_ hHeld e4 e5 e6 hi0 hi1 hi2
        go_wp2
        go_ret
        exact ⟨retB HN.out.symm, HB.out⟩
    · have HN : Aside0 (riseB l = decide (0 < l.length)) := ⟨by
        by_cases h0 : 0 < l.length
        · rw [decide_eq_true h0, riseB_yes h0 (fun i hi => HJ.out i (by omega) hi)]
        · rw [decide_eq_false h0, riseB_nil h0]⟩
      go_wp2
      go_ret
      exact ⟨retB (by rw [HN.out]), HB.out⟩
def tabRise2 : Bool × List (List Nat × List Nat) := (true, [([], []), ([], []), ([1], [1]), ([0, 2], [0, 2]), ([3], [3]), ([], []), ([], []), ([5, 6], [5, 6]), ([7], [7]), ([4, 8], [4, 8])])
theorem tabRise2_ok : rtab .any (opsOf Try.f16 4) = tabRise2 := by kernel_rfl
set_option maxHeartbeats 800000 in
set_option maxRecDepth 100000 in
theorem refrise_any (A : Option Addr) (n c : Nat) (l : List Int) (w : World) (hr : RdM w A n l) :
    Calls Try.prog 16 #[.slice A n c] w fun e w' => e = .returned (.bool (riseB l)) ∧ Below w.heap.size w w' := by
  obtain rfl := C_len hr
  have HB := Aside0.mk (Below.refl w.heap.size w)
  have hm := C_max hr
  have HR := Aside0.mk hr
  clear hr
  go_enter Try.func16, Try.ntmps16
  go_wp2
  go_loopg [3] l.length (fun gk v w' => ∃ j : Nat, v = .int .i64 ((j : Int) + 1) ∧ (j + gk = l.length ∨ (j = 0 ∧ gk = 0 ∧ l.length = 0)) ∧ Aside0 (∀ i, i < j → i + 1 < l.length → nth l i < nth l (i + 1)) ∧ Aside0 (Below w.heap.size w w'))
  case atStart => exact ⟨0, rfl, .inl (by omega), ⟨fun i hi => by omega⟩, HB⟩
  case round =>
    clear HB
    obtain ⟨j, rfl, hj, HJ, HB⟩ := hrel
    by_cases hlt : j + 1 < l.length
    · obtain ⟨ad, rfl, hc1⟩ := C_at HR.out j (by omega)
      obtain ⟨ad', he', hc2⟩ := C_at HR.out (j + 1) (by omega)
      injection he' with he'
      subst he'
      have hae : ad.add (j + 1) = ⟨ad.block, ad.off + (j + 1), none⟩ := by unfold Addr.add; split <;> simp_all
      rw [hae] at hc2
      have HC1 := Aside0.mk hc1
      have HC2 := Aside0.mk hc2
      clear hc1 hc2 hae
      have e4 : IntKind.i64.wrap ((j : Int) + 1 - 1) = (j : Int) := by rw [IntWalk.i64_in _ (by omega)]; omega
      have e5 : (j : Int) + 1 - 1 = (j : Int) := by omega
      have e6 : IntKind.i64.wrap (j : Int) = (j : Int) := IntWalk.i64_in _ (by omega)
      have hi0 : 0 ≤ (j : Int) + 1 := by omega
      have hi1 : (j : Int) + 1 < (l.length : Int) := by omega
      have hi2 : (j : Int) < (l.length : Int) := by omega
      by_cases hn : nth l j < nth l (j + 1)
      · have f1 : decide (nth l (j + 1) ≤ nth l j) = false := decide_eq_false (by omega)
        have HN := Aside0.mk hn
        clear hn
        go_wp2_with (fail)
        refine start_ (n := 10) (S := fun w' => w'.cell? (ad.add j) = some (.int .u64 (nth l j)) ∧ w'.cell? ⟨ad.block, ad.off + (j + 1), none⟩ = some (.int .u64 (nth l (j + 1)))) (ds := []) #[false, false, false, false, false, false, false, false, false, false] (by kernel_rfl) rfl rfl ⟨pw_cell_below (below_drew HB.out) HC1.out, pw_cell_below (below_drew HB.out) HC2.out⟩ (fun hHeld => ?_); refine with_tab tabRise2_ok (fun HT_ => ?_)
        have hb : Below wr.heap.size wr wr.drew := below_drew (Below.refl _ _)
        replace HB := Aside0.mk (HB.out.trans (hb.mono HB.out.size))
        clear hb
        refine pure_ (i := 0) (N := some 10) (v := ?_) (a' := ?_) #[true, false, false, false, false, false, false, false, false, false] rfl rfl (any_of HT_.out (by kernel_rfl)) (fun _ _ _ h => h) (Or.inl ⟨by rfl, ?_⟩) ?_ ?_
        rotate_left
        · intro w'
          go_simp
          with_reducible rfl
        rotate_left
        · simp only [Act.put, List.setIfInBounds_toArray, List.set_cons_zero, List.set_cons_succ]
          rfl
        refine pure_ (i := 1) (N := some 11) (v := ?_) (a' := ?_) #[true, true, false, false, false, false, false, false, false, false] rfl rfl (any_of HT_.out (by kernel_rfl)) (fun _ _ _ h => h) (Or.inl ⟨by rfl, ?_⟩) ?_ ?_
        rotate_left
        · intro w'
          go_simp
          with_reducible rfl
        rotate_left
        · simp only [Act.put, List.setIfInBounds_toArray, List.set_cons_zero, List.set_cons_succ]
          rfl
        refine pure_ (i := 2) (N := some 12) (v := ?_) (a' := ?_) #[true, true, true, false, false, false, false, false, false, false] rfl rfl (any_of HT_.out (by kernel_rfl)) (fun _ _ _ h => h) (Or.inl ⟨by rfl, ?_⟩) ?_ ?_
        rotate_left
        · intro w'
          go_simp
          with_reducible rfl
        rotate_left
        · simp only [Act.put, List.setIfInBounds_toArray, List.set_cons_zero, List.set_cons_succ]
          rfl
        refine pure_ (i := 3) (N := some 13) (v := ?_) (a' := ?_) #[true, true, true, true, false, false, false, false, false, false] rfl rfl (any_of HT_.out (by kernel_rfl)) (fun _ _ _ h => h) (Or.inl ⟨by rfl, ?_⟩) ?_ ?_
        rotate_left
        · intro w'
          go_simp
          with_reducible rfl
        rotate_left
        · simp only [Act.put, List.setIfInBounds_toArray, List.set_cons_zero, List.set_cons_succ]
          rfl
        refine take_ (i := 4) (N := some 14) (v := ?_) (a' := ?_) #[true, true, true, true, true, false, false, false, false, false] rfl rfl (take_of HT_.out (by kernel_rfl)) (fun _ _ _ h => h) (Or.inl ⟨by rfl, ?_⟩) hHeld ?_ ?_
        rotate_left
        · intro w' hw'
          obtain ⟨hw1, hw2⟩ := hw'
          go_simp
          with_reducible rfl
        rotate_left
        · simp only [Act.put, List.setIfInBounds_toArray, List.set_cons_zero, List.set_cons_succ]
          rfl
        refine pure_ (i := 5) (N := some 15) (v := ?_) (a' := ?_) #[true, true, true, true, true, true, false, false, false, false] rfl rfl (any_of HT_.out (by kernel_rfl)) (fun _ _ _ h => h) (Or.inl ⟨by rfl, ?_⟩) ?_ ?_
        rotate_left
        · intro w'
          go_simp
          with_reducible rfl
        rotate_left
        · simp only [Act.put, List.setIfInBounds_toArray, List.set_cons_zero, List.set_cons_succ]
          rfl
        refine pure_ (i := 6) (N := some 16) (v := ?_) (a' := ?_) #[true, true, true, true, true, true, true, false, false, false] rfl rfl (any_of HT_.out (by kernel_rfl)) (fun _ _ _ h => h) (Or.inl ⟨by rfl, ?_⟩) ?_ ?_
        rotate_left
        · intro w'
          go_simp
          with_reducible rfl
        rotate_left
        · simp only [Act.put, List.setIfInBounds_toArray, List.set_cons_zero, List.set_cons_succ]
          rfl
        refine pure_ (i := 7) (N := some 17) (v := ?_) (a' := ?_) #[true, true, true, true, true, true, true, true, false, false] rfl rfl (any_of HT_.out (by kernel_rfl)) (fun _ _ _ h => h) (Or.inl ⟨by rfl, ?_⟩) ?_ ?_
        rotate_left
        · intro w'
          go_simp
          with_reducible rfl
        rotate_left
        · simp only [Act.put, List.setIfInBounds_toArray, List.set_cons_zero, List.set_cons_succ]
          rfl
        refine take_ (i := 8) (N := some 18) (v := ?_) (a' := ?_) #[true, true, true, true, true, true, true, true, true, false] rfl rfl (take_of HT_.out (by kernel_rfl)) (fun _ _ _ h => h) (Or.inl ⟨by rfl, ?_⟩) hHeld ?_ ?_
        rotate_left
        · intro w' hw'
          obtain ⟨hw1, hw2⟩ := hw'
          go_simp
          with_reducible rfl
        rotate_left
        · simp only [Act.put, List.setIfInBounds_toArray, List.set_cons_zero, List.set_cons_succ]
          rfl
        refine pure_ (i := 9) (N := some 19) (v := ?_) (a' := ?_) #[true, true, true, true, true, true, true, true, true, true] rfl rfl (any_of HT_.out (by kernel_rfl)) (fun _ _ _ h => h) (Or.inl ⟨by rfl, ?_⟩) ?_ ?_
        rotate_left
        · intro w'
          go_simp
          with_reducible rfl
        rotate_left
        · simp only [Act.put, List.setIfInBounds_toArray, List.set_cons_zero, List.set_cons_succ]
          rfl
        refine done_ (done_of HT_.out (by kernel_rfl)) ?_
        clear HT_ hHeld e4 e5 e6 hi0 hi1 hi2
        go_wp2
        go_roundg (gk - 1)
        case measure => omega
        case rel => exact ⟨j + 1, by go_num, .inl (by omega), ⟨fun i hi hi2 => by
            rcases Nat.lt_or_ge i j with h | h
            · exact HJ.out i h hi2
            · obtain rfl : i = j := by omega
              exact HN.out⟩, HB⟩
      · have f1 : decide (nth l (j + 1) ≤ nth l j) = true := decide_eq_true (by omega)
        have HN := Aside0.mk (riseB_no hlt hn)
        clear hn
        go_wp2_with (fail)
        refine start_ (n := 10) (S := fun w' => w'.cell? (ad.add j) = some (.int .u64 (nth l j)) ∧ w'.cell? ⟨ad.block, ad.off + (j + 1), none⟩ = some (.int .u64 (nth l (j + 1)))) (ds := []) #[false, false, false, false, false, false, false, false, false, false] (by kernel_rfl) rfl rfl ⟨pw_cell_below (below_drew HB.out) HC1.out, pw_cell_below (below_drew HB.out) HC2.out⟩ (fun hHeld => ?_); refine with_tab tabRise2_ok (fun HT_ => ?_)
        have hb : Below wr.heap.size wr wr.drew := below_drew (Below.refl _ _)
        replace HB := Aside0.mk (HB.out.trans (hb.mono HB.out.size))
        clear hb
        refine pure_ (i := 0) (N := some 10) (v := ?_) (a' := ?_) #[true, false, false, false, false, false, false, false, false, false] rfl rfl (any_of HT_.out (by kernel_rfl)) (fun _ _ _ h => h) (Or.inl ⟨by rfl, ?_⟩) ?_ ?_
        rotate_left
        · intro w'
          go_simp
          with_reducible rfl
        rotate_left
        · simp only [Act.put, List.setIfInBounds_toArray, List.set_cons_zero, List.set_cons_succ]
          rfl
        refine pure_ (i := 1) (N := some 11) (v := ?_) (a' := ?_) #[true, true, false, false, false, false, false, false, false, false] rfl rfl (any_of HT_.out (by kernel_rfl)) (fun _ _ _ h => h) (Or.inl ⟨by rfl, ?_⟩) ?_ ?_
        rotate_left
        · intro w'
          go_simp
          with_reducible rfl
        rotate_left
        · simp only [Act.put, List.setIfInBounds_toArray, List.set_cons_zero, List.set_cons_succ]
          rfl
        refine pure_ (i := 2) (N := some 12) (v := ?_) (a' := ?_) #[true, true, true, false, false, false, false, false, false, false] rfl rfl (any_of HT_.out (by kernel_rfl)) (fun _ _ _ h => h) (Or.inl ⟨by rfl, ?_⟩) ?_ ?_
        rotate_left
        · intro w'
          go_simp
          with_reducible rfl
        rotate_left
        · simp only [Act.put, List.setIfInBounds_toArray, List.set_cons_zero, List.set_cons_succ]
          rfl
        refine pure_ (i := 3) (N := some 13) (v := ?_) (a' := ?_) #[true, true, true, true, false, false, false, false, false, false] rfl rfl (any_of HT_.out (by kernel_rfl)) (fun _ _ _ h => h) (Or.inl ⟨by rfl, ?_⟩) ?_ ?_
        rotate_left
        · intro w'
          go_simp
          with_reducible rfl
        rotate_left
        · simp only [Act.put, List.setIfInBounds_toArray, List.set_cons_zero, List.set_cons_succ]
          rfl
        refine take_ (i := 4) (N := some 14) (v := ?_) (a' := ?_) #[true, true, true, true, true, false, false, false, false, false] rfl rfl (take_of HT_.out (by kernel_rfl)) (fun _ _ _ h => h) (Or.inl ⟨by rfl, ?_⟩) hHeld ?_ ?_
        rotate_left
        · intro w' hw'
          obtain ⟨hw1, hw2⟩ := hw'
          go_simp
          with_reducible rfl
        rotate_left
        · simp only [Act.put, List.setIfInBounds_toArray, List.set_cons_zero, List.set_cons_succ]
          rfl
        refine pure_ (i := 5) (N := some 15) (v := ?_) (a' := ?_) #[true, true, true, true, true, true, false, false, false, false] rfl rfl (any_of HT_.out (by kernel_rfl)) (fun _ _ _ h => h) (Or.inl ⟨by rfl, ?_⟩) ?_ ?_
        rotate_left
        · intro w'
          go_simp
          with_reducible rfl
        rotate_left
        · simp only [Act.put, List.setIfInBounds_toArray, List.set_cons_zero, List.set_cons_succ]
          rfl
        refine pure_ (i := 6) (N := some 16) (v := ?_) (a' := ?_) #[true, true, true, true, true, true, true, false, false, false] rfl rfl (any_of HT_.out (by kernel_rfl)) (fun _ _ _ h => h) (Or.inl ⟨by rfl, ?_⟩) ?_ ?_
        rotate_left
        · intro w'
          go_simp
          with_reducible rfl
        rotate_left
        · simp only [Act.put, List.setIfInBounds_toArray, List.set_cons_zero, List.set_cons_succ]
          rfl
        refine pure_ (i := 7) (N := some 17) (v := ?_) (a' := ?_) #[true, true, true, true, true, true, true, true, false, false] rfl rfl (any_of HT_.out (by kernel_rfl)) (fun _ _ _ h => h) (Or.inl ⟨by rfl, ?_⟩) ?_ ?_
        rotate_left
        · intro w'
          go_simp
          with_reducible rfl
        rotate_left
        · simp only [Act.put, List.setIfInBounds_toArray, List.set_cons_zero, List.set_cons_succ]
          rfl
        refine take_ (i := 8) (N := some 18) (v := ?_) (a' := ?_) #[true, true, true, true, true, true, true, true, true, false] rfl rfl (take_of HT_.out (by kernel_rfl)) (fun _ _ _ h => h) (Or.inl ⟨by rfl, ?_⟩) hHeld ?_ ?_
        rotate_left
        · intro w' hw'
          obtain ⟨hw1, hw2⟩ := hw'
          go_simp
          with_reducible rfl
        rotate_left
        · simp only [Act.put, List.setIfInBounds_toArray, List.set_cons_zero, List.set_cons_succ]
          rfl
        refine pure_ (i := 9) (N := some 19) (v := ?_) (a' := ?_) #[true, true, true, true, true, true, true, true, true, true] rfl rfl (any_of HT_.out (by kernel_rfl)) (fun _ _ _ h => h) (Or.inl ⟨by rfl, ?_⟩) ?_ ?_
        rotate_left
        · intro w'
          go_simp
          with_reducible rfl
        rotate_left
        · simp only [Act.put, List.setIfInBounds_toArray, List.set_cons_zero, List.set_cons_succ]
          rfl
        refine done_ (done_of HT_.out (by kernel_rfl)) ?_
        clear HT_ hHeld e4 e5 e6 hi0 hi1 hi2
        go_wp2
        go_ret
        exact ⟨retB HN.out.symm, HB.out⟩
    · have HN : Aside0 (riseB l = decide (0 < l.length)) := ⟨by
        by_cases h0 : 0 < l.length
        · rw [decide_eq_true h0, riseB_yes h0 (fun i hi => HJ.out i (by omega) hi)]
        · rw [decide_eq_false h0, riseB_nil h0]⟩
      go_wp2
      go_ret
      exact ⟨retB (by rw [HN.out]), HB.out⟩

/-! Bad; the closures of the statements -/
theorem bad_any (tb m : Int) (w : World) (ht : 0 ≤ tb) (hm : 0 ≤ m) :
    Calls Try.prog 17 #[.int .u64 tb, .int .u64 m] w fun e w' => e = .returned (.bool (badT tb m)) ∧ w = w' := by
  have e1 : m.tmod 64 = m % 64 := Int.tmod_eq_emod_of_nonneg hm
  have e2 : min (m % 64).toNat 64 = (m % 64).toNat := by omega
  have e3 : (tb / 2 ^ (m % 64).toNat).tmod 2 = tb / 2 ^ (m % 64).toNat % 2 := Int.tmod_eq_emod_of_nonneg (Int.ediv_nonneg ht (Int.pow_nonneg (by decide)))
  have h0 : 0 ≤ m % 64 := by omega
  have h1 : m % 64 ≤ 64 := by omega
  go_enter Try.func17, Try.ntmps17
  go_wp2
  go_ret
  exact ⟨rfl, rfl⟩

theorem byc_any (tb m : Int) (g : Nat) (w : World) (ht : 0 ≤ tb) (hm : 0 ≤ m) (hc : w.cell? ⟨g, 0, none⟩ = some (.int .u64 tb)) :
    Calls Try.prog 25 #[.int .u64 m, .pointer (some ⟨g, 0, none⟩)] w fun e w' => e = .returned (.bool (badT tb m)) ∧ w = w' := by
  go_enter Try.func25, Try.ntmps25
  go_wp2_with (go_at_call 17; refine (bad_any tb m _ ht hm).mono ?_; rintro e w1 ⟨rfl, rfl⟩)
  go_ret
  exact ⟨rfl, rfl⟩
theorem fromc_any (n m : Int) (g : Nat) (w : World) (hc : w.cell? ⟨g, 0, none⟩ = some (.int .u64 n)) :
    Calls Try.prog 26 #[.int .u64 m, .pointer (some ⟨g, 0, none⟩)] w fun e w' => e = .returned (.bool (badF n m)) ∧ w = w' := by
  go_enter Try.func26, Try.ntmps26
  go_wp2
  go_ret
  exact ⟨rfl, rfl⟩
theorem by_any (tb : Int) (w : World) :
    Calls Try.prog 15 #[.int .u64 tb] w fun e w' => ∃ g, e = .returned (.func (.func 25) #[] #[.pointer (some ⟨g, 0, none⟩)]) ∧ w'.cell? ⟨g, 0, none⟩ = some (.int .u64 tb) ∧ g < w'.heap.size ∧ Below w.heap.size w w' := by
  have hmf : ∀ (fn : Fn) (first cap : Array Value) (w : World), (Instr.makeFunc fn first cap).run Try.prog w = .ok (.func fn first cap) w := fun _ _ _ _ => rfl
  go_enter Try.func15, Try.ntmps15
  go_wp2
  go_ret
  exact ⟨w.heap.size, rfl, by simp, by simp, below_alloc (Below.refl _ _) _⟩
theorem from_any (n : Int) (w : World) :
    Calls Try.prog 20 #[.int .u64 n] w fun e w' => ∃ g, e = .returned (.func (.func 26) #[] #[.pointer (some ⟨g, 0, none⟩)]) ∧ w'.cell? ⟨g, 0, none⟩ = some (.int .u64 n) ∧ g < w'.heap.size ∧ Below w.heap.size w w' := by
  have hmf : ∀ (fn : Fn) (first cap : Array Value) (w : World), (Instr.makeFunc fn first cap).run Try.prog w = .ok (.func fn first cap) w := fun _ _ _ _ => rfl
  go_enter Try.func20, Try.ntmps20
  go_wp2
  go_ret
  exact ⟨w.heap.size, rfl, by simp, by simp, below_alloc (Below.refl _ _) _⟩

/-! look -/
/-- What is told of a moment that was looked at: its two cells. -/
def lkEnc (x : Int × Bool) : List Value := [.int .u64 x.1, .bool x.2]
abbrev Lk : Kd (Int × Bool) := flat 2 lkEnc (fun _ => rfl) (fun x u hu => by simp only [lkEnc, List.mem_cons, List.not_mem_nil, or_false] at hu; rcases hu with rfl | rfl <;> rfl)
theorem infoLk : (Try.prog.info? 38).map (fun i => (i.zero, i.size, i.bytes)) = some (some (.agg #[.int .u64 0, .bool false]), 2, 16) := by kernel_rfl
/-- The cells of what was found. -/
def foundObj (a : Int) (o : Bool) (v : Value) : Obj := .cells #[.int .u64 a, .bool o, v] 31 (0, 0)
theorem found_set3 {W : World} {g : Nat} {a0 : Int} {o0 : Bool} {v0 : Value} (h : W.heap[g]? = some (foundObj a0 o0 v0)) (a : Int) (o : Bool) (v : Value) :
    (((W.setCell ⟨g, 0, none⟩ (.int .u64 a)).setCell ⟨g, 1, none⟩ (.bool o)).setCell ⟨g, 2, none⟩ v).heap[g]? = some (foundObj a o v) := blk_set (blk_set (blk_set h 0 _) 1 _) 2 _
theorem two_new {w w1 : World} {o1 o2 : Obj} (hb : Below ((w.alloc o1).alloc o2).heap.size ((w.alloc o1).alloc o2) w1) :
    w1.heap[w.heap.size]? = some o1 ∧ w1.heap[w.heap.size + 1]? = some o2 ∧ Below w.heap.size w w1 := by
  refine ⟨(hb.block _ (by simp; omega)).trans (blk_alloc (blk_new w o1) o2), ?_, (below_alloc (below_alloc (Below.refl _ _) _) _).trans (hb.mono (by simp; omega))⟩
  have h1 := blk_new (w.alloc o1) o2
  have h2 : (w.alloc o1).heap.size = w.heap.size + 1 := by simp
  rw [h2] at h1
  exact (hb.block _ (by simp)).trans h1
set_option maxHeartbeats 800000 in
set_option maxRecDepth 100000 in
theorem look_by (g : Nat) (a : Int) (o : Bool) (v : Value) (xs : List (Int × Bool)) (m tb : Int) (gt : Nat) (W : World) (base : Nat) (ok : Nat → Prop) (hok : ∀ k, ok k → k ≠ g) (hfr : ∀ k, W.heap.size ≤ k → ok k) (hg : W.heap[g]? = some (foundObj a o v)) (hbg : base ≤ g)
    (hL : Kd.R Lk 38 W base ok v xs) (ht : 0 ≤ tb) (hm : 0 ≤ m) (hc : W.cell? ⟨gt, 0, none⟩ = some (.int .u64 tb)) (hlen : xs.length ≤ 1000000) :
    Calls Try.prog 24 #[.pointer (some ⟨g, 0, none⟩), .int .u64 m, .func (.func 25) #[] #[.pointer (some ⟨gt, 0, none⟩)]] W fun e w' =>
      e = .returned (.bool (badT tb m)) ∧ ∃ v', w'.heap[g]? = some (foundObj a o v') ∧ Kd.R Lk 38 w' base ok v' (xs ++ [(m, badT tb m)]) ∧ Below base W w' ∧ KeepBut W w' g v.ownBlock := by
  have c2 : W.cell? ⟨g, 2, none⟩ = some v := blk_cell hg 2
  have z2 : W.frozen? ⟨g, 2, none⟩ = false := blk_frozen hg 2
  have HG := Aside0.mk hg
  have HL := Aside0.mk hL
  clear hg hL
  have hne : ∀ W : World, (binOp .neq 33 (.func (.func 25) #[] #[.pointer (some ⟨gt, 0, none⟩)]) .nilFunc).run Try.prog W = .ok (.bool true) W := fun _ => rfl
  go_enter Try.func24, Try.ntmps24
  go_wp2_with (first
    | ((with_reducible refine gate_builtin (b := .append) (xs := #[.tmp 19, .tmp 23]) rfl ?_); at_builtin; go_must (refine Kd.R_append Lk (w0 := W) base rfl (.tmp 19) (.tmp 23) 29 38 (.agg #[.int .u64 0, .bool false]) 16 rfl Try.underlying29 infoLk rfl (by decide) (by omega) v xs (m, badT tb m) (lkEnc (m, badT tb m)) ok (fun _ => False) rfl rfl ?hp ?hokp hfr HL.out (Below.refl _ _) ?hb (by omega) ?_; (case hp => rfl); (case hokp => exact fun k hk => hk.elim); (case hb => have := blk_lt HG.out; omega); intro v1 w1 ho hb hgr hat; obtain ⟨A1, c1, rfl⟩ := Kd.R_slice ho; have hg1 := blk_grown HG.out hgr (fun he => hok g (HL.out.1 g he.symm) rfl); have c3 : w1.cell? ⟨g, 2, none⟩ = some v := blk_cell hg1 2; have z3 : w1.frozen? ⟨g, 2, none⟩ = false := blk_frozen hg1 2; have HG1 := Aside0.mk hg1; have HO1 := Aside0.mk ho; have HB1 := Aside0.mk hb; have HK1 := Aside0.mk (KeepBut.of_grown hgr g); clear hg1 ho hb hgr hat))
    | (go_at_call 25; refine (byc_any tb m gt _ ht hm hc).mono ?_; rintro e w1 ⟨rfl, rfl⟩))
  go_ret
  rw [List.length_append, List.length_singleton] at HO1
  refine ⟨rfl, _, ?_, R_set_far HO1.out hok, HB1.out.setCell hbg _, HK1.out.set_ 2 _⟩
  exact blk_set HG1.out 2 _
set_option maxHeartbeats 800000 in
set_option maxRecDepth 100000 in
theorem look_from (g : Nat) (a : Int) (o : Bool) (v : Value) (xs : List (Int × Bool)) (m tb : Int) (gt : Nat) (W : World) (base : Nat) (ok : Nat → Prop) (hok : ∀ k, ok k → k ≠ g) (hfr : ∀ k, W.heap.size ≤ k → ok k) (hg : W.heap[g]? = some (foundObj a o v)) (hbg : base ≤ g)
    (hL : Kd.R Lk 38 W base ok v xs) (hc : W.cell? ⟨gt, 0, none⟩ = some (.int .u64 tb)) (hlen : xs.length ≤ 1000000) :
    Calls Try.prog 24 #[.pointer (some ⟨g, 0, none⟩), .int .u64 m, .func (.func 26) #[] #[.pointer (some ⟨gt, 0, none⟩)]] W fun e w' =>
      e = .returned (.bool (badF tb m)) ∧ ∃ v', w'.heap[g]? = some (foundObj a o v') ∧ Kd.R Lk 38 w' base ok v' (xs ++ [(m, badF tb m)]) ∧ Below base W w' ∧ KeepBut W w' g v.ownBlock := by
  have c2 : W.cell? ⟨g, 2, none⟩ = some v := blk_cell hg 2
  have z2 : W.frozen? ⟨g, 2, none⟩ = false := blk_frozen hg 2
  have HG := Aside0.mk hg
  have HL := Aside0.mk hL
  clear hg hL
  have hne : ∀ W : World, (binOp .neq 33 (.func (.func 26) #[] #[.pointer (some ⟨gt, 0, none⟩)]) .nilFunc).run Try.prog W = .ok (.bool true) W := fun _ => rfl
  go_enter Try.func24, Try.ntmps24
  go_wp2_with (first
    | ((with_reducible refine gate_builtin (b := .append) (xs := #[.tmp 19, .tmp 23]) rfl ?_); at_builtin; go_must (refine Kd.R_append Lk (w0 := W) base rfl (.tmp 19) (.tmp 23) 29 38 (.agg #[.int .u64 0, .bool false]) 16 rfl Try.underlying29 infoLk rfl (by decide) (by omega) v xs (m, badF tb m) (lkEnc (m, badF tb m)) ok (fun _ => False) rfl rfl ?hp ?hokp hfr HL.out (Below.refl _ _) ?hb (by omega) ?_; (case hp => rfl); (case hokp => exact fun k hk => hk.elim); (case hb => have := blk_lt HG.out; omega); intro v1 w1 ho hb hgr hat; obtain ⟨A1, c1, rfl⟩ := Kd.R_slice ho; have hg1 := blk_grown HG.out hgr (fun he => hok g (HL.out.1 g he.symm) rfl); have c3 : w1.cell? ⟨g, 2, none⟩ = some v := blk_cell hg1 2; have z3 : w1.frozen? ⟨g, 2, none⟩ = false := blk_frozen hg1 2; have HG1 := Aside0.mk hg1; have HO1 := Aside0.mk ho; have HB1 := Aside0.mk hb; have HK1 := Aside0.mk (KeepBut.of_grown hgr g); clear hg1 ho hb hgr hat))
    | (go_at_call 26; refine (fromc_any tb m gt _ hc).mono ?_; rintro e w1 ⟨rfl, rfl⟩))
  go_ret
  rw [List.length_append, List.length_singleton] at HO1
  refine ⟨rfl, _, ?_, R_set_far HO1.out hok, HB1.out.setCell hbg _, HK1.out.set_ 2 _⟩
  exact blk_set HG1.out 2 _

/-- Where Last and Each stand: w0 is the world in which they were called; the result's cells and f's cells are the first two new blocks; f.L reads xs. -/
structure St (w0 W : World) (v : Value) (xs : List (Int × Bool)) : Prop where
  hb : Below w0.heap.size w0 W
  h4 : W.heap[w0.heap.size]? = some (foundObj 0 false (.slice none 0 0))
  h5 : W.heap[w0.heap.size + 1]? = some (foundObj 0 false v)
  hl : Kd.R Lk 38 W w0.heap.size (fun k => k ≠ w0.heap.size + 1 ∧ k ≠ w0.heap.size) v xs
theorem St.start {w w1 : World} (hb : Below ((w.alloc (.cells #[.int .u64 0, .bool false, .slice none 0 0] 31)).alloc (.cells #[.int .u64 0, .bool false, .slice none 0 0] 31)).heap.size ((w.alloc (.cells #[.int .u64 0, .bool false, .slice none 0 0] 31)).alloc (.cells #[.int .u64 0, .bool false, .slice none 0 0] 31)) w1) : St w w1 (.slice none 0 0) [] := by
  obtain ⟨h4, h5, h⟩ := two_new hb
  exact ⟨h, h4, h5, Kd.R_nil _ _ _ _ _⟩
theorem St.grow {w0 W w' : World} {v v' : Value} {xs xs' : List (Int × Bool)} (h : St w0 W v xs) (h5 : w'.heap[w0.heap.size + 1]? = some (foundObj 0 false v')) (hl : Kd.R Lk 38 w' w0.heap.size (fun k => k ≠ w0.heap.size + 1 ∧ k ≠ w0.heap.size) v' xs')
    (hb : Below w0.heap.size W w') (hk : KeepBut W w' (w0.heap.size + 1) v.ownBlock) : St w0 w' v' xs' :=
  ⟨h.hb.trans hb, hk.blk h.h4 (by omega) (fun he => (h.hl.1 _ he.symm).2 rfl), h5, hl⟩
theorem lookst_by {w0 W : World} {v : Value} {xs : List (Int × Bool)} (h : St w0 W v xs) (m tb : Int) (gt : Nat) (ht : 0 ≤ tb) (hm : 0 ≤ m) (hc : w0.cell? ⟨gt, 0, none⟩ = some (.int .u64 tb)) (hlen : xs.length ≤ 1000000) :
    Calls Try.prog 24 #[.pointer (some ⟨w0.heap.size + 1, 0, none⟩), .int .u64 m, .func (.func 25) #[] #[.pointer (some ⟨gt, 0, none⟩)]] W fun e w' =>
      e = .returned (.bool (badT tb m)) ∧ ∃ A c, St w0 w' (.slice A (xs.length + 1) c) (xs ++ [(m, badT tb m)]) := by
  refine (look_by (w0.heap.size + 1) 0 false v xs m tb gt W w0.heap.size (fun k => k ≠ w0.heap.size + 1 ∧ k ≠ w0.heap.size) (fun k hk => hk.1) (fun k hk => by have := blk_lt h.h5; omega) h.h5 (by omega) h.hl ht hm (pw_cell_below h.hb hc) hlen).mono ?_
  rintro e w' ⟨rfl, v', h5, hl, hb, hk⟩
  obtain ⟨A, c, rfl⟩ := Kd.R_slice hl
  rw [List.length_append, List.length_singleton] at h5 hl
  exact ⟨rfl, A, c, h.grow h5 hl hb hk⟩
theorem lookst_from {w0 W : World} {v : Value} {xs : List (Int × Bool)} (h : St w0 W v xs) (m tb : Int) (gt : Nat) (hc : w0.cell? ⟨gt, 0, none⟩ = some (.int .u64 tb)) (hlen : xs.length ≤ 1000000) :
    Calls Try.prog 24 #[.pointer (some ⟨w0.heap.size + 1, 0, none⟩), .int .u64 m, .func (.func 26) #[] #[.pointer (some ⟨gt, 0, none⟩)]] W fun e w' =>
      e = .returned (.bool (badF tb m)) ∧ ∃ A c, St w0 w' (.slice A (xs.length + 1) c) (xs ++ [(m, badF tb m)]) := by
  refine (look_from (w0.heap.size + 1) 0 false v xs m tb gt W w0.heap.size (fun k => k ≠ w0.heap.size + 1 ∧ k ≠ w0.heap.size) (fun k hk => hk.1) (fun k hk => by have := blk_lt h.h5; omega) h.h5 (by omega) h.hl (pw_cell_below h.hb hc) hlen).mono ?_
  rintro e w' ⟨rfl, v', h5, hl, hb, hk⟩
  obtain ⟨A, c, rfl⟩ := Kd.R_slice hl
  rw [List.length_append, List.length_singleton] at h5 hl
  exact ⟨rfl, A, c, h.grow h5 hl hb hk⟩

/-- What the cells of the two are, and that they may be written. -/
theorem St.cells {w0 W : World} {v : Value} {xs : List (Int × Bool)} (h : St w0 W v xs) :
    (W.cell? ⟨w0.heap.size, 0, none⟩ = some (.int .u64 0) ∧ W.cell? ⟨w0.heap.size, 1, none⟩ = some (.bool false) ∧ W.cell? ⟨w0.heap.size, 2, none⟩ = some (.slice none 0 0) ∧
     W.frozen? ⟨w0.heap.size, 0, none⟩ = false ∧ W.frozen? ⟨w0.heap.size, 1, none⟩ = false ∧ W.frozen? ⟨w0.heap.size, 2, none⟩ = false) ∧
    (W.cell? ⟨w0.heap.size + 1, 0, none⟩ = some (.int .u64 0) ∧ W.cell? ⟨w0.heap.size + 1, 1, none⟩ = some (.bool false) ∧ W.cell? ⟨w0.heap.size + 1, 2, none⟩ = some v ∧
     W.frozen? ⟨w0.heap.size + 1, 0, none⟩ = false ∧ W.frozen? ⟨w0.heap.size + 1, 1, none⟩ = false ∧ W.frozen? ⟨w0.heap.size + 1, 2, none⟩ = false) :=
  ⟨⟨blk_cell h.h4 0, blk_cell h.h4 1, blk_cell h.h4 2, blk_frozen h.h4 0, blk_frozen h.h4 1, blk_frozen h.h4 2⟩, ⟨blk_cell h.h5 0, blk_cell h.h5 1, blk_cell h.h5 2, blk_frozen h.h5 0, blk_frozen h.h5 1, blk_frozen h.h5 2⟩⟩
/-- Stores into the two leave f.L, and all that was. -/
theorem St.shut {w0 W : World} {v : Value} {xs : List (Int × Bool)} (h : St w0 W v xs) : Kd.R Lk 38 W w0.heap.size (fun k => k ≠ w0.heap.size + 1 ∧ k ≠ w0.heap.size) v xs ∧ Below w0.heap.size w0 W := ⟨h.hl, h.hb⟩
end Go.Proofs.Yteikmlgcmhgaoaa.Search
