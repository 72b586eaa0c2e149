/- What the second forms of layer 52 answer. Conditions stand in each statement. -/
import Derived.Test.YteikmlgcmhgaoaaSearch
import Derived.IntWalk
import Derived.Outline
import Derived.Deep.DeepMust
namespace Go.Proofs.Yteikmlgcmhgaoaa.Search
open Go.RowKit Go.Proofs.YteikmlgcmhgaoaaW.PrintWords Go.Proofs.YteikmlgcmhgaoaaW.PrintLast Go.Proofs.YteikmlgcmhgaoaaW.PrintMore Go.Proofs.Yteikmlgcmhgaoaa.Kit Go.Proofs.Yteikmlgcmhgaoaa.Plain
set_option linter.unusedVariables false
set_option linter.unusedSimpArgs false
theorem infoLk2 : (Try.prog.info? 42).map (fun i => (i.zero, i.size, i.bytes)) = some (some (.agg #[.int .u64 0, .bool false]), 2, 16) := by kernel_rfl
def tabL5 : Bool × List (List Nat × List Nat) := (true, [([], []), ([], []), ([], []), ([1, 2], [1, 2]), ([3], [3]), ([], []), ([], []), ([], []), ([6, 7], [6, 7]), ([8], [8]), ([5, 9], [5, 9]), ([4, 10], [4, 10]), ([11], [11]), ([0, 12, 10], [0, 12]), ([13, 13, 0, 1, 2, 3, 4, 5, 6, 7, 8, 9, 10, 11, 12, 13], [0, 13])])
theorem tabL5_ok : rtab .any (opsOf Try.f12 5) = tabL5 := by kernel_rfl
def tabL10 : Bool × List (List Nat × List Nat) := (true, [([], []), ([], []), ([1], [1]), ([2], [2]), ([], []), ([], []), ([5], [5]), ([6], [6]), ([4, 7], [4, 7]), ([3, 8], [3, 8]), ([9], [9]), ([0, 10, 8], [0, 10]), ([11, 11, 0, 1, 2, 3, 4, 5, 6, 7, 8, 9, 10, 11], [0, 11])])
theorem tabL10_ok : rtab .any (opsOf Try.f12 10) = tabL10 := by kernel_rfl
def tabL16 : Bool × List (List Nat × List Nat) := (true, [([], []), ([], []), ([], []), ([1, 2], [1, 2]), ([3], [3]), ([], []), ([], []), ([], []), ([6, 7], [6, 7]), ([8], [8]), ([5, 9], [5, 9]), ([4, 10], [4, 10]), ([11], [11]), ([0, 12, 10], [0, 12]), ([13, 13, 0, 1, 2, 3, 4, 5, 6, 7, 8, 9, 10, 11, 12, 13], [0, 13])])
theorem tabL16_ok : rtab .any (opsOf Try.f12 16) = tabL16 := by kernel_rfl
theorem C_atx {W : World} {ad : Addr} {n : Nat} {l : List Int} (h : RdM W (some ad) n l) (i : Nat) (hi : i < n) : W.cell? (ad.add i) = some (.int .u64 (nth l i)) := by
  obtain ⟨ad', he, hc⟩ := C_at h i hi
  injection he with he
  subst he
  exact hc
theorem C_at0x {W : World} {ad : Addr} {n : Nat} {l : List Int} (h : RdM W (some ad) n l) (hi : 0 < n) : W.cell? ad = some (.int .u64 (nth l 0)) := by
  exact C_atx h 0 hi
theorem retT3 {a b : Int} {p q : Bool} {v : Value} (h : a = b) (h2 : p = q) : Ending.returned (.tuple #[.int .u64 a, .bool p, v]) = .returned (.tuple #[.int .u64 b, .bool q, v]) := by rw [h, h2]

set_option maxHeartbeats 1600000 in
set_option maxRecDepth 100000 in
theorem reflast_any (A : Option Addr) (n c : Nat) (l : List Int) (tb : Int) (w : World) (hr : RdM w A n l) (hl : ∀ x ∈ l, 0 ≤ x) (hn : n ≤ 100000) (ht : 0 ≤ tb) :
    Calls Try.prog 12 #[.slice A n c, .int .u64 tb] w fun e w' =>
      ∃ v, e = .returned (.tuple #[.int .u64 (lastS l (badT tb)).m, .bool (lastS l (badT tb)).ok, v]) ∧ Kd.R Lk 42 w' w.heap.size (fun _ => True) v (lastS l (badT tb)).l ∧ Below w.heap.size w w' := by
  obtain rfl := C_len hr
  have HB := Aside0.mk (Below.refl w.heap.size w)
  have HR := Aside0.mk hr
  clear hr
  by_cases hrise : riseB l = false
  · have HE : Aside0 (lastS l (badT tb) = ⟨0, false, []⟩) := ⟨by rw [lastS, if_pos hrise]⟩
    go_enter Try.func12, Try.ntmps12
    go_wp2_with (go_at_call 16; refine (refrise_any _ _ _ l _ HR.out).mono ?_; rintro e w1 ⟨rfl, hb⟩; rw [hrise]; replace HB := Aside0.mk (HB.out.trans (hb.mono HB.out.size)); clear hb)
    refine bodyPost_ret (v := .tuple #[.int .u64 0, .bool false, .slice none 0 0]) (by simp [results, Try.results12, go_sem]) rfl ?_
    exact ⟨_, retT3 (by rw [HE.out]) (by rw [HE.out]), by rw [HE.out]; exact Kd.R_nil _ _ _ _ _, HB.out⟩
  have hrise1 : riseB l = true := by simpa using hrise
  obtain ⟨hl0, _⟩ := riseB_spec hrise1
  obtain ⟨K, hK⟩ : ∃ K, K = l.length - 1 := ⟨_, rfl⟩
  have hKl : K < l.length := by omega
  have eK : (l.length : Int) - 1 = (K : Int) := by omega
  obtain ⟨ad, rfl, hcK⟩ := C_at HR.out K hKl
  have HCK := Aside0.mk hcK
  clear hcK
  have hmK : 0 ≤ nth l K := hl _ (nth_mem hKl)
  have hi0 : (0 : Int) ≤ (K : Int) := by omega
  have hi1 : (K : Int) < (l.length : Int) := by omega
  by_cases hb1 : badT tb (nth l K) = false
  · have HE : Aside0 (lastS l (badT tb) = ⟨nth l K, true, [(nth l K, badT tb (nth l K))]⟩) := ⟨by rw [lastS, if_neg hrise, ← hK, if_pos hb1, hb1]⟩
    have HB1 := Aside0.mk hb1
    clear hK hb1 hrise
    go_enter Try.func12, Try.ntmps12
    go_wp2_with (go_at_call 16; refine (refrise_any _ _ _ l _ HR.out).mono ?_; rintro e w1 ⟨rfl, hb⟩; rw [hrise1]; replace HB := Aside0.mk (HB.out.trans (hb.mono HB.out.size)); clear hb)
    refine start_ (n := 15) (S := fun w' => w'.cell? (ad.add K) = some (.int .u64 (nth l K))) (ds := []) #[false, false, false, false, false, false, false, false, false, false, false, false, false, false, false] (by kernel_rfl) rfl rfl (pw_cell_below (below_drew HB.out) HCK.out) (fun hHeld => ?_); refine with_tab tabL5_ok (fun HT_ => ?_)
    have hb : Below w1.heap.size w1 w1.drew := below_drew (Below.refl _ _)
    replace HB := Aside0.mk (HB.out.trans (hb.mono HB.out.size))
    clear hb
    refine pure_ (i := 0) (N := some 17) (v := ?_) (a' := ?_) #[true, false, false, false, false, false, false, false, false, false, false, false, false, false, false] rfl rfl (any_of HT_.out (by kernel_rfl)) (fun _ _ _ h => h) (Or.inl ⟨by rfl, ?_⟩) ?_ ?_
    rotate_left
    · intro w'
      go_simp
      with_reducible rfl
    rotate_left
    · simp only [Act.put, List.setIfInBounds_toArray, List.set_cons_zero, List.set_cons_succ]
      rfl
    refine pure_ (i := 1) (N := some 18) (v := ?_) (a' := ?_) #[true, true, false, false, false, false, false, false, false, false, false, false, false, false, false] rfl rfl (any_of HT_.out (by kernel_rfl)) (fun _ _ _ h => h) (Or.inl ⟨by rfl, ?_⟩) ?_ ?_
    rotate_left
    · intro w'
      go_simp
      with_reducible rfl
    rotate_left
    · simp only [Act.put, List.setIfInBounds_toArray, List.set_cons_zero, List.set_cons_succ]
      rfl
    refine pure_ (i := 2) (N := some 19) (v := ?_) (a' := ?_) #[true, true, true, false, false, false, false, false, false, false, false, false, false, false, false] rfl rfl (any_of HT_.out (by kernel_rfl)) (fun _ _ _ h => h) (Or.inl ⟨by rfl, ?_⟩) ?_ ?_
    rotate_left
    · intro w'
      go_simp
      with_reducible rfl
    rotate_left
    · simp only [Act.put, List.setIfInBounds_toArray, List.set_cons_zero, List.set_cons_succ]
      rfl
    refine pure_ (i := 3) (N := some 20) (v := ?_) (a' := ?_) #[true, true, true, true, false, false, false, false, false, false, false, false, false, false, false] rfl rfl (any_of HT_.out (by kernel_rfl)) (fun _ _ _ h => h) (Or.inl ⟨by rfl, ?_⟩) ?_ ?_
    rotate_left
    · intro w'
      go_simp
      with_reducible rfl
    rotate_left
    · simp only [Act.put, List.setIfInBounds_toArray, List.set_cons_zero, List.set_cons_succ]
      rfl
    refine take_ (i := 4) (N := some 21) (v := ?_) (a' := ?_) #[true, true, true, true, true, false, false, false, false, false, false, false, false, false, false] rfl rfl (take_of HT_.out (by kernel_rfl)) (fun _ _ _ h => h) (Or.inl ⟨by rfl, ?_⟩) hHeld ?_ ?_
    rotate_left
    · intro w' hw'
      skip
      go_simp
      with_reducible rfl
    rotate_left
    · simp only [Act.put, List.setIfInBounds_toArray, List.set_cons_zero, List.set_cons_succ]
      rfl
    refine pure_ (i := 5) (N := some 22) (v := ?_) (a' := ?_) #[true, true, true, true, true, true, false, false, false, false, false, false, false, false, false] rfl rfl (any_of HT_.out (by kernel_rfl)) (fun _ _ _ h => h) (Or.inl ⟨by rfl, ?_⟩) ?_ ?_
    rotate_left
    · intro w'
      go_simp
      with_reducible rfl
    rotate_left
    · simp only [Act.put, List.setIfInBounds_toArray, List.set_cons_zero, List.set_cons_succ]
      rfl
    refine pure_ (i := 6) (N := some 23) (v := ?_) (a' := ?_) #[true, true, true, true, true, true, true, false, false, false, false, false, false, false, false] rfl rfl (any_of HT_.out (by kernel_rfl)) (fun _ _ _ h => h) (Or.inl ⟨by rfl, ?_⟩) ?_ ?_
    rotate_left
    · intro w'
      go_simp
      with_reducible rfl
    rotate_left
    · simp only [Act.put, List.setIfInBounds_toArray, List.set_cons_zero, List.set_cons_succ]
      rfl
    refine pure_ (i := 7) (N := some 24) (v := ?_) (a' := ?_) #[true, true, true, true, true, true, true, true, false, false, false, false, false, false, false] rfl rfl (any_of HT_.out (by kernel_rfl)) (fun _ _ _ h => h) (Or.inl ⟨by rfl, ?_⟩) ?_ ?_
    rotate_left
    · intro w'
      go_simp
      with_reducible rfl
    rotate_left
    · simp only [Act.put, List.setIfInBounds_toArray, List.set_cons_zero, List.set_cons_succ]
      rfl
    refine pure_ (i := 8) (N := some 25) (v := ?_) (a' := ?_) #[true, true, true, true, true, true, true, true, true, false, false, false, false, false, false] rfl rfl (any_of HT_.out (by kernel_rfl)) (fun _ _ _ h => h) (Or.inl ⟨by rfl, ?_⟩) ?_ ?_
    rotate_left
    · intro w'
      go_simp
      with_reducible rfl
    rotate_left
    · simp only [Act.put, List.setIfInBounds_toArray, List.set_cons_zero, List.set_cons_succ]
      rfl
    refine take_ (i := 9) (N := some 26) (v := ?_) (a' := ?_) #[true, true, true, true, true, true, true, true, true, true, false, false, false, false, false] rfl rfl (take_of HT_.out (by kernel_rfl)) (fun _ _ _ h => h) (Or.inl ⟨by rfl, ?_⟩) hHeld ?_ ?_
    rotate_left
    · intro w' hw'
      skip
      go_simp
      with_reducible rfl
    rotate_left
    · simp only [Act.put, List.setIfInBounds_toArray, List.set_cons_zero, List.set_cons_succ]
      rfl
    refine one_ (i := 10) (N := some 27) #[true, true, true, true, true, true, true, true, true, true, true, false, false, false, false] rfl rfl (one_of HT_.out (by kernel_rfl)) (by decide) (fun Kq_ hK_ => ?_)
    refine goes_ Try.func17 (by kernel_rfl) rfl #[.int .u64 tb, .int .u64 (nth l K)] (by rfl) rfl rfl (by (try simp only [List.map_toArray, List.map_cons, List.map_nil]); first | done | rfl) ?_
    with_reducible refine (bad_any tb (nth l K) _ ht hmK).mono ?_
    rintro e w' ⟨rfl, rfl⟩
    refine ⟨_, rfl, ?_⟩
    refine hK_.out _ _ (pw_cell_below HB.out HCK.out) (fun hHeld => ?_)
    clear hK_ Kq_
    refine norm_ (a' := ?_) ?_ ?_
    rotate_left
    · show Act.put _ (some 27) _ = _
      simp only [Act.put, List.setIfInBounds_toArray, List.set_cons_zero, List.set_cons_succ]
      rfl
    refine pure_ (i := 11) (N := some 28) (v := ?_) (a' := ?_) #[true, true, true, true, true, true, true, true, true, true, true, true, false, false, false] rfl rfl (any_of HT_.out (by kernel_rfl)) (fun _ _ _ h => h) (Or.inl ⟨by rfl, ?_⟩) ?_ ?_
    rotate_left
    · intro w'
      go_simp
      with_reducible rfl
    rotate_left
    · simp only [Act.put, List.setIfInBounds_toArray, List.set_cons_zero, List.set_cons_succ]
      rfl
    refine one_ (i := 12) (N := some 29) #[true, true, true, true, true, true, true, true, true, true, true, true, true, false, false] rfl rfl (one_of HT_.out (by kernel_rfl)) (by decide) (fun Kq_ hK_ => ?_)
    refine value_ (w1 := ?_) (v := ?_) (by rfl) rfl ?_ ?_
    rotate_left 2
    · go_simp
      constructor
      · rfl
      · rfl
    refine hK_.out _ _ (pw_cell_below (HB.out.alloc HB.out.size _) HCK.out) (fun hHeld => ?_)
    clear hK_ Kq_
    refine norm_ (a' := ?_) ?_ ?_
    rotate_left
    · show Act.put _ (some 29) _ = _
      simp only [Act.put, List.setIfInBounds_toArray, List.set_cons_zero, List.set_cons_succ]
      rfl
    refine one_ (i := 13) (N := some 30) #[true, true, true, true, true, true, true, true, true, true, true, true, true, true, false] rfl rfl (one_of HT_.out (by kernel_rfl)) (by decide) (fun Kq_ hK_ => ?_)
    refine Kd.R_append_step Lk (w0 := w) w.heap.size (by rfl) (.tmp 17) (.tmp 29) 25 42 (.agg #[.int .u64 0, .bool false]) 16 rfl Try.underlying25 infoLk2 rfl (by decide) (by omega) (.slice none 0 0) [] (nth l K, badT tb (nth l K)) (lkEnc (nth l K, badT tb (nth l K))) (fun _ => True) (fun _ => False) rfl rfl rfl (fun _ hk => hk.elim) (fun _ _ => trivial) (Kd.R_nil _ _ _ _ _) HB.out HB.out.size (by (try simp only [List.length_nil, List.length_cons]); omega) ?_
    intro v2 w2 ho hb hg hat
    obtain ⟨A2, c2, rfl⟩ := Kd.R_slice ho
    clear HB
    have HB := Aside0.mk hb
    have HO2 := Aside0.mk ho
    clear ho hb hg hat
    refine hK_.out _ _ (pw_cell_below HB.out HCK.out) (fun hHeld => ?_)
    clear hK_ Kq_
    refine norm_ (a' := ?_) ?_ ?_
    rotate_left
    · show Act.put _ (some 30) _ = _
      simp only [Act.put, List.setIfInBounds_toArray, List.set_cons_zero, List.set_cons_succ]
      rfl
    refine pure_ (i := 14) (N := some 7) (v := ?_) (a' := ?_) #[true, true, true, true, true, true, true, true, true, true, true, true, true, true, true] rfl rfl (any_of HT_.out (by kernel_rfl)) (fun _ _ _ h => h) (Or.inl ⟨by rfl, ?_⟩) ?_ ?_
    rotate_left
    · intro w'
      go_simp
      with_reducible rfl
    rotate_left
    · simp only [Act.put, List.setIfInBounds_toArray, List.set_cons_zero, List.set_cons_succ]
      rfl
    refine done_ (done_of HT_.out (by kernel_rfl)) ?_
    clear HT_ hHeld
    have hcx := pw_cell_below HB.out HCK.out
    go_wp2_with (go_at_call 17; refine (bad_any tb (nth l K) _ ht hmK).mono ?_; rintro e w3 ⟨rfl, rfl⟩; rw [HB1.out])
    refine bodyPost_ret (v := .tuple #[.int .u64 (nth l K), .bool true, .slice A2 1 c2]) (by simp [results, Try.results12, go_sem]) rfl ?_
    exact ⟨_, retT3 (by rw [HE.out]) (by rw [HE.out]), by rw [HE.out]; exact HO2.out, HB.out⟩
  have hb1' : badT tb (nth l K) = true := by simpa using hb1
  by_cases hK0 : K = 0
  · have HE : Aside0 (lastS l (badT tb) = ⟨0, false, [(nth l K, badT tb (nth l K))]⟩) := ⟨by rw [lastS, if_neg hrise, ← hK, if_neg hb1, if_pos hK0, hb1']⟩
    have HB1 := Aside0.mk hb1'
    have hK00 : ((K : Int) == 0) = true := by simp [hK0]
    have hK01 : (K == 0) = true := by simp [hK0]
    clear hb1 hb1' hrise hK hK0
    go_enter Try.func12, Try.ntmps12
    go_wp2_with (go_at_call 16; refine (refrise_any _ _ _ l _ HR.out).mono ?_; rintro e w1 ⟨rfl, hb⟩; rw [hrise1]; replace HB := Aside0.mk (HB.out.trans (hb.mono HB.out.size)); clear hb)
    refine start_ (n := 15) (S := fun w' => w'.cell? (ad.add K) = some (.int .u64 (nth l K))) (ds := []) #[false, false, false, false, false, false, false, false, false, false, false, false, false, false, false] (by kernel_rfl) rfl rfl (pw_cell_below (below_drew HB.out) HCK.out) (fun hHeld => ?_); refine with_tab tabL5_ok (fun HT_ => ?_)
    have hb : Below w1.heap.size w1 w1.drew := below_drew (Below.refl _ _)
    replace HB := Aside0.mk (HB.out.trans (hb.mono HB.out.size))
    clear hb
    refine pure_ (i := 0) (N := some 17) (v := ?_) (a' := ?_) #[true, false, false, false, false, false, false, false, false, false, false, false, false, false, false] rfl rfl (any_of HT_.out (by kernel_rfl)) (fun _ _ _ h => h) (Or.inl ⟨by rfl, ?_⟩) ?_ ?_
    rotate_left
    · intro w'
      go_simp
      with_reducible rfl
    rotate_left
    · simp only [Act.put, List.setIfInBounds_toArray, List.set_cons_zero, List.set_cons_succ]
      rfl
    refine pure_ (i := 1) (N := some 18) (v := ?_) (a' := ?_) #[true, true, false, false, false, false, false, false, false, false, false, false, false, false, false] rfl rfl (any_of HT_.out (by kernel_rfl)) (fun _ _ _ h => h) (Or.inl ⟨by rfl, ?_⟩) ?_ ?_
    rotate_left
    · intro w'
      go_simp
      with_reducible rfl
    rotate_left
    · simp only [Act.put, List.setIfInBounds_toArray, List.set_cons_zero, List.set_cons_succ]
      rfl
    refine pure_ (i := 2) (N := some 19) (v := ?_) (a' := ?_) #[true, true, true, false, false, false, false, false, false, false, false, false, false, false, false] rfl rfl (any_of HT_.out (by kernel_rfl)) (fun _ _ _ h => h) (Or.inl ⟨by rfl, ?_⟩) ?_ ?_
    rotate_left
    · intro w'
      go_simp
      with_reducible rfl
    rotate_left
    · simp only [Act.put, List.setIfInBounds_toArray, List.set_cons_zero, List.set_cons_succ]
      rfl
    refine pure_ (i := 3) (N := some 20) (v := ?_) (a' := ?_) #[true, true, true, true, false, false, false, false, false, false, false, false, false, false, false] rfl rfl (any_of HT_.out (by kernel_rfl)) (fun _ _ _ h => h) (Or.inl ⟨by rfl, ?_⟩) ?_ ?_
    rotate_left
    · intro w'
      go_simp
      with_reducible rfl
    rotate_left
    · simp only [Act.put, List.setIfInBounds_toArray, List.set_cons_zero, List.set_cons_succ]
      rfl
    refine take_ (i := 4) (N := some 21) (v := ?_) (a' := ?_) #[true, true, true, true, true, false, false, false, false, false, false, false, false, false, false] rfl rfl (take_of HT_.out (by kernel_rfl)) (fun _ _ _ h => h) (Or.inl ⟨by rfl, ?_⟩) hHeld ?_ ?_
    rotate_left
    · intro w' hw'
      skip
      go_simp
      with_reducible rfl
    rotate_left
    · simp only [Act.put, List.setIfInBounds_toArray, List.set_cons_zero, List.set_cons_succ]
      rfl
    refine pure_ (i := 5) (N := some 22) (v := ?_) (a' := ?_) #[true, true, true, true, true, true, false, false, false, false, false, false, false, false, false] rfl rfl (any_of HT_.out (by kernel_rfl)) (fun _ _ _ h => h) (Or.inl ⟨by rfl, ?_⟩) ?_ ?_
    rotate_left
    · intro w'
      go_simp
      with_reducible rfl
    rotate_left
    · simp only [Act.put, List.setIfInBounds_toArray, List.set_cons_zero, List.set_cons_succ]
      rfl
    refine pure_ (i := 6) (N := some 23) (v := ?_) (a' := ?_) #[true, true, true, true, true, true, true, false, false, false, false, false, false, false, false] rfl rfl (any_of HT_.out (by kernel_rfl)) (fun _ _ _ h => h) (Or.inl ⟨by rfl, ?_⟩) ?_ ?_
    rotate_left
    · intro w'
      go_simp
      with_reducible rfl
    rotate_left
    · simp only [Act.put, List.setIfInBounds_toArray, List.set_cons_zero, List.set_cons_succ]
      rfl
    refine pure_ (i := 7) (N := some 24) (v := ?_) (a' := ?_) #[true, true, true, true, true, true, true, true, false, false, false, false, false, false, false] rfl rfl (any_of HT_.out (by kernel_rfl)) (fun _ _ _ h => h) (Or.inl ⟨by rfl, ?_⟩) ?_ ?_
    rotate_left
    · intro w'
      go_simp
      with_reducible rfl
    rotate_left
    · simp only [Act.put, List.setIfInBounds_toArray, List.set_cons_zero, List.set_cons_succ]
      rfl
    refine pure_ (i := 8) (N := some 25) (v := ?_) (a' := ?_) #[true, true, true, true, true, true, true, true, true, false, false, false, false, false, false] rfl rfl (any_of HT_.out (by kernel_rfl)) (fun _ _ _ h => h) (Or.inl ⟨by rfl, ?_⟩) ?_ ?_
    rotate_left
    · intro w'
      go_simp
      with_reducible rfl
    rotate_left
    · simp only [Act.put, List.setIfInBounds_toArray, List.set_cons_zero, List.set_cons_succ]
      rfl
    refine take_ (i := 9) (N := some 26) (v := ?_) (a' := ?_) #[true, true, true, true, true, true, true, true, true, true, false, false, false, false, false] rfl rfl (take_of HT_.out (by kernel_rfl)) (fun _ _ _ h => h) (Or.inl ⟨by rfl, ?_⟩) hHeld ?_ ?_
    rotate_left
    · intro w' hw'
      skip
      go_simp
      with_reducible rfl
    rotate_left
    · simp only [Act.put, List.setIfInBounds_toArray, List.set_cons_zero, List.set_cons_succ]
      rfl
    refine one_ (i := 10) (N := some 27) #[true, true, true, true, true, true, true, true, true, true, true, false, false, false, false] rfl rfl (one_of HT_.out (by kernel_rfl)) (by decide) (fun Kq_ hK_ => ?_)
    refine goes_ Try.func17 (by kernel_rfl) rfl #[.int .u64 tb, .int .u64 (nth l K)] (by rfl) rfl rfl (by (try simp only [List.map_toArray, List.map_cons, List.map_nil]); first | done | rfl) ?_
    with_reducible refine (bad_any tb (nth l K) _ ht hmK).mono ?_
    rintro e w' ⟨rfl, rfl⟩
    refine ⟨_, rfl, ?_⟩
    refine hK_.out _ _ (pw_cell_below HB.out HCK.out) (fun hHeld => ?_)
    clear hK_ Kq_
    refine norm_ (a' := ?_) ?_ ?_
    rotate_left
    · show Act.put _ (some 27) _ = _
      simp only [Act.put, List.setIfInBounds_toArray, List.set_cons_zero, List.set_cons_succ]
      rfl
    refine pure_ (i := 11) (N := some 28) (v := ?_) (a' := ?_) #[true, true, true, true, true, true, true, true, true, true, true, true, false, false, false] rfl rfl (any_of HT_.out (by kernel_rfl)) (fun _ _ _ h => h) (Or.inl ⟨by rfl, ?_⟩) ?_ ?_
    rotate_left
    · intro w'
      go_simp
      with_reducible rfl
    rotate_left
    · simp only [Act.put, List.setIfInBounds_toArray, List.set_cons_zero, List.set_cons_succ]
      rfl
    refine one_ (i := 12) (N := some 29) #[true, true, true, true, true, true, true, true, true, true, true, true, true, false, false] rfl rfl (one_of HT_.out (by kernel_rfl)) (by decide) (fun Kq_ hK_ => ?_)
    refine value_ (w1 := ?_) (v := ?_) (by rfl) rfl ?_ ?_
    rotate_left 2
    · go_simp
      constructor
      · rfl
      · rfl
    refine hK_.out _ _ (pw_cell_below (HB.out.alloc HB.out.size _) HCK.out) (fun hHeld => ?_)
    clear hK_ Kq_
    refine norm_ (a' := ?_) ?_ ?_
    rotate_left
    · show Act.put _ (some 29) _ = _
      simp only [Act.put, List.setIfInBounds_toArray, List.set_cons_zero, List.set_cons_succ]
      rfl
    refine one_ (i := 13) (N := some 30) #[true, true, true, true, true, true, true, true, true, true, true, true, true, true, false] rfl rfl (one_of HT_.out (by kernel_rfl)) (by decide) (fun Kq_ hK_ => ?_)
    refine Kd.R_append_step Lk (w0 := w) w.heap.size (by rfl) (.tmp 17) (.tmp 29) 25 42 (.agg #[.int .u64 0, .bool false]) 16 rfl Try.underlying25 infoLk2 rfl (by decide) (by omega) (.slice none 0 0) [] (nth l K, badT tb (nth l K)) (lkEnc (nth l K, badT tb (nth l K))) (fun _ => True) (fun _ => False) rfl rfl rfl (fun _ hk => hk.elim) (fun _ _ => trivial) (Kd.R_nil _ _ _ _ _) HB.out HB.out.size (by (try simp only [List.length_nil, List.length_cons]); omega) ?_
    intro v2 w2 ho hb hg hat
    obtain ⟨A2, c2, rfl⟩ := Kd.R_slice ho
    clear HB
    have HB := Aside0.mk hb
    have HO2 := Aside0.mk ho
    clear ho hb hg hat
    refine hK_.out _ _ (pw_cell_below HB.out HCK.out) (fun hHeld => ?_)
    clear hK_ Kq_
    refine norm_ (a' := ?_) ?_ ?_
    rotate_left
    · show Act.put _ (some 30) _ = _
      simp only [Act.put, List.setIfInBounds_toArray, List.set_cons_zero, List.set_cons_succ]
      rfl
    refine pure_ (i := 14) (N := some 7) (v := ?_) (a' := ?_) #[true, true, true, true, true, true, true, true, true, true, true, true, true, true, true] rfl rfl (any_of HT_.out (by kernel_rfl)) (fun _ _ _ h => h) (Or.inl ⟨by rfl, ?_⟩) ?_ ?_
    rotate_left
    · intro w'
      go_simp
      with_reducible rfl
    rotate_left
    · simp only [Act.put, List.setIfInBounds_toArray, List.set_cons_zero, List.set_cons_succ]
      rfl
    refine done_ (done_of HT_.out (by kernel_rfl)) ?_
    clear HT_ hHeld
    have hcx := pw_cell_below HB.out HCK.out
    go_wp2_with (go_at_call 17; refine (bad_any tb (nth l K) _ ht hmK).mono ?_; rintro e w3 ⟨rfl, rfl⟩; rw [HB1.out])
    refine bodyPost_ret (v := .tuple #[.int .u64 0, .bool false, .slice A2 1 c2]) (by simp [results, Try.results12, go_sem]) rfl ?_
    exact ⟨_, retT3 (by rw [HE.out]) (by rw [HE.out]), by rw [HE.out]; exact HO2.out, HB.out⟩
  have hm0 : 0 ≤ nth l 0 := hl _ (nth_mem hl0)
  have HC0 := Aside0.mk (C_at0x HR.out hl0)
  have hK00 : ((K : Int) == 0) = false := by simp [hK0]
  have hK01 : (K == 0) = false := by simp [hK0]
  have hl0' : (0 : Int) < (l.length : Int) := by omega
  by_cases hb2 : badT tb (nth l 0) = true
  · have HE : Aside0 (lastS l (badT tb) = ⟨0, false, [(nth l K, badT tb (nth l K)), (nth l 0, badT tb (nth l 0))]⟩) := ⟨by rw [lastS, if_neg hrise, ← hK, if_neg hb1, if_neg hK0, if_pos hb2, hb1', hb2]⟩
    have HB1 := Aside0.mk hb1'
    have HB2 := Aside0.mk hb2
    clear hb1 hb1' hb2 hrise hK hK0
    go_enter Try.func12, Try.ntmps12
    go_wp2_with (go_at_call 16; refine (refrise_any _ _ _ l _ HR.out).mono ?_; rintro e w1 ⟨rfl, hb⟩; rw [hrise1]; replace HB := Aside0.mk (HB.out.trans (hb.mono HB.out.size)); clear hb)
    refine start_ (n := 15) (S := fun w' => w'.cell? (ad.add K) = some (.int .u64 (nth l K))) (ds := []) #[false, false, false, false, false, false, false, false, false, false, false, false, false, false, false] (by kernel_rfl) rfl rfl (pw_cell_below (below_drew HB.out) HCK.out) (fun hHeld => ?_); refine with_tab tabL5_ok (fun HT_ => ?_)
    have hb : Below w1.heap.size w1 w1.drew := below_drew (Below.refl _ _)
    replace HB := Aside0.mk (HB.out.trans (hb.mono HB.out.size))
    clear hb
    refine pure_ (i := 0) (N := some 17) (v := ?_) (a' := ?_) #[true, false, false, false, false, false, false, false, false, false, false, false, false, false, false] rfl rfl (any_of HT_.out (by kernel_rfl)) (fun _ _ _ h => h) (Or.inl ⟨by rfl, ?_⟩) ?_ ?_
    rotate_left
    · intro w'
      go_simp
      with_reducible rfl
    rotate_left
    · simp only [Act.put, List.setIfInBounds_toArray, List.set_cons_zero, List.set_cons_succ]
      rfl
    refine pure_ (i := 1) (N := some 18) (v := ?_) (a' := ?_) #[true, true, false, false, false, false, false, false, false, false, false, false, false, false, false] rfl rfl (any_of HT_.out (by kernel_rfl)) (fun _ _ _ h => h) (Or.inl ⟨by rfl, ?_⟩) ?_ ?_
    rotate_left
    · intro w'
      go_simp
      with_reducible rfl
    rotate_left
    · simp only [Act.put, List.setIfInBounds_toArray, List.set_cons_zero, List.set_cons_succ]
      rfl
    refine pure_ (i := 2) (N := some 19) (v := ?_) (a' := ?_) #[true, true, true, false, false, false, false, false, false, false, false, false, false, false, false] rfl rfl (any_of HT_.out (by kernel_rfl)) (fun _ _ _ h => h) (Or.inl ⟨by rfl, ?_⟩) ?_ ?_
    rotate_left
    · intro w'
      go_simp
      with_reducible rfl
    rotate_left
    · simp only [Act.put, List.setIfInBounds_toArray, List.set_cons_zero, List.set_cons_succ]
      rfl
    refine pure_ (i := 3) (N := some 20) (v := ?_) (a' := ?_) #[true, true, true, true, false, false, false, false, false, false, false, false, false, false, false] rfl rfl (any_of HT_.out (by kernel_rfl)) (fun _ _ _ h => h) (Or.inl ⟨by rfl, ?_⟩) ?_ ?_
    rotate_left
    · intro w'
      go_simp
      with_reducible rfl
    rotate_left
    · simp only [Act.put, List.setIfInBounds_toArray, List.set_cons_zero, List.set_cons_succ]
      rfl
    refine take_ (i := 4) (N := some 21) (v := ?_) (a' := ?_) #[true, true, true, true, true, false, false, false, false, false, false, false, false, false, false] rfl rfl (take_of HT_.out (by kernel_rfl)) (fun _ _ _ h => h) (Or.inl ⟨by rfl, ?_⟩) hHeld ?_ ?_
    rotate_left
    · intro w' hw'
      skip
      go_simp
      with_reducible rfl
    rotate_left
    · simp only [Act.put, List.setIfInBounds_toArray, List.set_cons_zero, List.set_cons_succ]
      rfl
    refine pure_ (i := 5) (N := some 22) (v := ?_) (a' := ?_) #[true, true, true, true, true, true, false, false, false, false, false, false, false, false, false] rfl rfl (any_of HT_.out (by kernel_rfl)) (fun _ _ _ h => h) (Or.inl ⟨by rfl, ?_⟩) ?_ ?_
    rotate_left
    · intro w'
      go_simp
      with_reducible rfl
    rotate_left
    · simp only [Act.put, List.setIfInBounds_toArray, List.set_cons_zero, List.set_cons_succ]
      rfl
    refine pure_ (i := 6) (N := some 23) (v := ?_) (a' := ?_) #[true, true, true, true, true, true, true, false, false, false, false, false, false, false, false] rfl rfl (any_of HT_.out (by kernel_rfl)) (fun _ _ _ h => h) (Or.inl ⟨by rfl, ?_⟩) ?_ ?_
    rotate_left
    · intro w'
      go_simp
      with_reducible rfl
    rotate_left
    · simp only [Act.put, List.setIfInBounds_toArray, List.set_cons_zero, List.set_cons_succ]
      rfl
    refine pure_ (i := 7) (N := some 24) (v := ?_) (a' := ?_) #[true, true, true, true, true, true, true, true, false, false, false, false, false, false, false] rfl rfl (any_of HT_.out (by kernel_rfl)) (fun _ _ _ h => h) (Or.inl ⟨by rfl, ?_⟩) ?_ ?_
    rotate_left
    · intro w'
      go_simp
      with_reducible rfl
    rotate_left
    · simp only [Act.put, List.setIfInBounds_toArray, List.set_cons_zero, List.set_cons_succ]
      rfl
    refine pure_ (i := 8) (N := some 25) (v := ?_) (a' := ?_) #[true, true, true, true, true, true, true, true, true, false, false, false, false, false, false] rfl rfl (any_of HT_.out (by kernel_rfl)) (fun _ _ _ h => h) (Or.inl ⟨by rfl, ?_⟩) ?_ ?_
    rotate_left
    · intro w'
      go_simp
      with_reducible rfl
    rotate_left
    · simp only [Act.put, List.setIfInBounds_toArray, List.set_cons_zero, List.set_cons_succ]
      rfl
    refine take_ (i := 9) (N := some 26) (v := ?_) (a' := ?_) #[true, true, true, true, true, true, true, true, true, true, false, false, false, false, false] rfl rfl (take_of HT_.out (by kernel_rfl)) (fun _ _ _ h => h) (Or.inl ⟨by rfl, ?_⟩) hHeld ?_ ?_
    rotate_left
    · intro w' hw'
      skip
      go_simp
      with_reducible rfl
    rotate_left
    · simp only [Act.put, List.setIfInBounds_toArray, List.set_cons_zero, List.set_cons_succ]
      rfl
    refine one_ (i := 10) (N := some 27) #[true, true, true, true, true, true, true, true, true, true, true, false, false, false, false] rfl rfl (one_of HT_.out (by kernel_rfl)) (by decide) (fun Kq_ hK_ => ?_)
    refine goes_ Try.func17 (by kernel_rfl) rfl #[.int .u64 tb, .int .u64 (nth l K)] (by rfl) rfl rfl (by (try simp only [List.map_toArray, List.map_cons, List.map_nil]); first | done | rfl) ?_
    with_reducible refine (bad_any tb (nth l K) _ ht hmK).mono ?_
    rintro e w' ⟨rfl, rfl⟩
    refine ⟨_, rfl, ?_⟩
    refine hK_.out _ _ (pw_cell_below HB.out HCK.out) (fun hHeld => ?_)
    clear hK_ Kq_
    refine norm_ (a' := ?_) ?_ ?_
    rotate_left
    · show Act.put _ (some 27) _ = _
      simp only [Act.put, List.setIfInBounds_toArray, List.set_cons_zero, List.set_cons_succ]
      rfl
    refine pure_ (i := 11) (N := some 28) (v := ?_) (a' := ?_) #[true, true, true, true, true, true, true, true, true, true, true, true, false, false, false] rfl rfl (any_of HT_.out (by kernel_rfl)) (fun _ _ _ h => h) (Or.inl ⟨by rfl, ?_⟩) ?_ ?_
    rotate_left
    · intro w'
      go_simp
      with_reducible rfl
    rotate_left
    · simp only [Act.put, List.setIfInBounds_toArray, List.set_cons_zero, List.set_cons_succ]
      rfl
    refine one_ (i := 12) (N := some 29) #[true, true, true, true, true, true, true, true, true, true, true, true, true, false, false] rfl rfl (one_of HT_.out (by kernel_rfl)) (by decide) (fun Kq_ hK_ => ?_)
    refine value_ (w1 := ?_) (v := ?_) (by rfl) rfl ?_ ?_
    rotate_left 2
    · go_simp
      constructor
      · rfl
      · rfl
    refine hK_.out _ _ (pw_cell_below (HB.out.alloc HB.out.size _) HCK.out) (fun hHeld => ?_)
    clear hK_ Kq_
    refine norm_ (a' := ?_) ?_ ?_
    rotate_left
    · show Act.put _ (some 29) _ = _
      simp only [Act.put, List.setIfInBounds_toArray, List.set_cons_zero, List.set_cons_succ]
      rfl
    refine one_ (i := 13) (N := some 30) #[true, true, true, true, true, true, true, true, true, true, true, true, true, true, false] rfl rfl (one_of HT_.out (by kernel_rfl)) (by decide) (fun Kq_ hK_ => ?_)
    refine Kd.R_append_step Lk (w0 := w) w.heap.size (by rfl) (.tmp 17) (.tmp 29) 25 42 (.agg #[.int .u64 0, .bool false]) 16 rfl Try.underlying25 infoLk2 rfl (by decide) (by omega) (.slice none 0 0) [] (nth l K, badT tb (nth l K)) (lkEnc (nth l K, badT tb (nth l K))) (fun _ => True) (fun _ => False) rfl rfl rfl (fun _ hk => hk.elim) (fun _ _ => trivial) (Kd.R_nil _ _ _ _ _) HB.out HB.out.size (by (try simp only [List.length_nil, List.length_cons]); omega) ?_
    intro v2 w2 ho hb hg hat
    obtain ⟨A2, c2, rfl⟩ := Kd.R_slice ho
    clear HB
    have HB := Aside0.mk hb
    have HO2 := Aside0.mk ho
    clear ho hb hg hat
    refine hK_.out _ _ (pw_cell_below HB.out HCK.out) (fun hHeld => ?_)
    clear hK_ Kq_
    refine norm_ (a' := ?_) ?_ ?_
    rotate_left
    · show Act.put _ (some 30) _ = _
      simp only [Act.put, List.setIfInBounds_toArray, List.set_cons_zero, List.set_cons_succ]
      rfl
    refine pure_ (i := 14) (N := some 7) (v := ?_) (a' := ?_) #[true, true, true, true, true, true, true, true, true, true, true, true, true, true, true] rfl rfl (any_of HT_.out (by kernel_rfl)) (fun _ _ _ h => h) (Or.inl ⟨by rfl, ?_⟩) ?_ ?_
    rotate_left
    · intro w'
      go_simp
      with_reducible rfl
    rotate_left
    · simp only [Act.put, List.setIfInBounds_toArray, List.set_cons_zero, List.set_cons_succ]
      rfl
    refine done_ (done_of HT_.out (by kernel_rfl)) ?_
    clear HT_ hHeld
    have hcx := pw_cell_below HB.out HCK.out
    go_wp2_with (go_at_call 17; refine (bad_any tb (nth l K) _ ht hmK).mono ?_; rintro e w3 ⟨rfl, rfl⟩; rw [HB1.out])
    clear hcx
    refine start_ (n := 13) (S := fun w' => w'.cell? (ad) = some (.int .u64 (nth l 0))) (ds := []) #[false, false, false, false, false, false, false, false, false, false, false, false, false] (by kernel_rfl) rfl rfl (pw_cell_below (below_drew HB.out) HC0.out) (fun hHeld => ?_); refine with_tab tabL10_ok (fun HT_ => ?_)
    have hb : Below w2.heap.size w2 w2.drew := below_drew (Below.refl _ _)
    replace HO2 := Aside0.mk (Kd.R_below HO2.out hb)
    replace HB := Aside0.mk (HB.out.trans (hb.mono HB.out.size))
    clear hb
    refine pure_ (i := 0) (N := some 46) (v := ?_) (a' := ?_) #[true, false, false, false, false, false, false, false, false, false, false, false, false] rfl rfl (any_of HT_.out (by kernel_rfl)) (fun _ _ _ h => h) (Or.inl ⟨by rfl, ?_⟩) ?_ ?_
    rotate_left
    · intro w'
      go_simp
      with_reducible rfl
    rotate_left
    · simp only [Act.put, List.setIfInBounds_toArray, List.set_cons_zero, List.set_cons_succ]
      rfl
    refine pure_ (i := 1) (N := some 47) (v := ?_) (a' := ?_) #[true, true, false, false, false, false, false, false, false, false, false, false, false] rfl rfl (any_of HT_.out (by kernel_rfl)) (fun _ _ _ h => h) (Or.inl ⟨by rfl, ?_⟩) ?_ ?_
    rotate_left
    · intro w'
      go_simp
      with_reducible rfl
    rotate_left
    · simp only [Act.put, List.setIfInBounds_toArray, List.set_cons_zero, List.set_cons_succ]
      rfl
    refine pure_ (i := 2) (N := some 48) (v := ?_) (a' := ?_) #[true, true, true, false, false, false, false, false, false, false, false, false, false] rfl rfl (any_of HT_.out (by kernel_rfl)) (fun _ _ _ h => h) (Or.inl ⟨by rfl, ?_⟩) ?_ ?_
    rotate_left
    · intro w'
      go_simp
      with_reducible rfl
    rotate_left
    · simp only [Act.put, List.setIfInBounds_toArray, List.set_cons_zero, List.set_cons_succ]
      rfl
    refine take_ (i := 3) (N := some 49) (v := ?_) (a' := ?_) #[true, true, true, true, false, false, false, false, false, false, false, false, false] rfl rfl (take_of HT_.out (by kernel_rfl)) (fun _ _ _ h => h) (Or.inl ⟨by rfl, ?_⟩) hHeld ?_ ?_
    rotate_left
    · intro w' hw'
      skip
      go_simp
      with_reducible rfl
    rotate_left
    · simp only [Act.put, List.setIfInBounds_toArray, List.set_cons_zero, List.set_cons_succ]
      rfl
    refine pure_ (i := 4) (N := some 50) (v := ?_) (a' := ?_) #[true, true, true, true, true, false, false, false, false, false, false, false, false] rfl rfl (any_of HT_.out (by kernel_rfl)) (fun _ _ _ h => h) (Or.inl ⟨by rfl, ?_⟩) ?_ ?_
    rotate_left
    · intro w'
      go_simp
      with_reducible rfl
    rotate_left
    · simp only [Act.put, List.setIfInBounds_toArray, List.set_cons_zero, List.set_cons_succ]
      rfl
    refine pure_ (i := 5) (N := some 51) (v := ?_) (a' := ?_) #[true, true, true, true, true, true, false, false, false, false, false, false, false] rfl rfl (any_of HT_.out (by kernel_rfl)) (fun _ _ _ h => h) (Or.inl ⟨by rfl, ?_⟩) ?_ ?_
    rotate_left
    · intro w'
      go_simp
      with_reducible rfl
    rotate_left
    · simp only [Act.put, List.setIfInBounds_toArray, List.set_cons_zero, List.set_cons_succ]
      rfl
    refine pure_ (i := 6) (N := some 52) (v := ?_) (a' := ?_) #[true, true, true, true, true, true, true, false, false, false, false, false, false] rfl rfl (any_of HT_.out (by kernel_rfl)) (fun _ _ _ h => h) (Or.inl ⟨by rfl, ?_⟩) ?_ ?_
    rotate_left
    · intro w'
      go_simp
      with_reducible rfl
    rotate_left
    · simp only [Act.put, List.setIfInBounds_toArray, List.set_cons_zero, List.set_cons_succ]
      rfl
    refine take_ (i := 7) (N := some 53) (v := ?_) (a' := ?_) #[true, true, true, true, true, true, true, true, false, false, false, false, false] rfl rfl (take_of HT_.out (by kernel_rfl)) (fun _ _ _ h => h) (Or.inl ⟨by rfl, ?_⟩) hHeld ?_ ?_
    rotate_left
    · intro w' hw'
      skip
      go_simp
      with_reducible rfl
    rotate_left
    · simp only [Act.put, List.setIfInBounds_toArray, List.set_cons_zero, List.set_cons_succ]
      rfl
    refine one_ (i := 8) (N := some 54) #[true, true, true, true, true, true, true, true, true, false, false, false, false] rfl rfl (one_of HT_.out (by kernel_rfl)) (by decide) (fun Kq_ hK_ => ?_)
    refine goes_ Try.func17 (by kernel_rfl) rfl #[.int .u64 tb, .int .u64 (nth l 0)] (by rfl) rfl rfl (by (try simp only [List.map_toArray, List.map_cons, List.map_nil]); first | done | rfl) ?_
    with_reducible refine (bad_any tb (nth l 0) _ ht hm0).mono ?_
    rintro e w' ⟨rfl, rfl⟩
    refine ⟨_, rfl, ?_⟩
    refine hK_.out _ _ (pw_cell_below HB.out HC0.out) (fun hHeld => ?_)
    clear hK_ Kq_
    refine norm_ (a' := ?_) ?_ ?_
    rotate_left
    · show Act.put _ (some 54) _ = _
      simp only [Act.put, List.setIfInBounds_toArray, List.set_cons_zero, List.set_cons_succ]
      rfl
    refine pure_ (i := 9) (N := some 55) (v := ?_) (a' := ?_) #[true, true, true, true, true, true, true, true, true, true, false, false, false] rfl rfl (any_of HT_.out (by kernel_rfl)) (fun _ _ _ h => h) (Or.inl ⟨by rfl, ?_⟩) ?_ ?_
    rotate_left
    · intro w'
      go_simp
      with_reducible rfl
    rotate_left
    · simp only [Act.put, List.setIfInBounds_toArray, List.set_cons_zero, List.set_cons_succ]
      rfl
    refine one_ (i := 10) (N := some 56) #[true, true, true, true, true, true, true, true, true, true, true, false, false] rfl rfl (one_of HT_.out (by kernel_rfl)) (by decide) (fun Kq_ hK_ => ?_)
    refine value_ (w1 := ?_) (v := ?_) (by rfl) rfl ?_ ?_
    rotate_left 2
    · go_simp
      constructor
      · rfl
      · rfl
    refine hK_.out _ _ (pw_cell_below (HB.out.alloc HB.out.size _) HC0.out) (fun hHeld => ?_)
    clear hK_ Kq_
    refine norm_ (a' := ?_) ?_ ?_
    rotate_left
    · show Act.put _ (some 56) _ = _
      simp only [Act.put, List.setIfInBounds_toArray, List.set_cons_zero, List.set_cons_succ]
      rfl
    refine one_ (i := 11) (N := some 57) #[true, true, true, true, true, true, true, true, true, true, true, true, false] rfl rfl (one_of HT_.out (by kernel_rfl)) (by decide) (fun Kq_ hK_ => ?_)
    refine Kd.R_append_step Lk (w0 := w) w.heap.size (by rfl) (.tmp 46) (.tmp 56) 25 42 (.agg #[.int .u64 0, .bool false]) 16 rfl Try.underlying25 infoLk2 rfl (by decide) (by omega) (.slice A2 1 c2) [(nth l K, badT tb (nth l K))] (nth l 0, badT tb (nth l 0)) (lkEnc (nth l 0, badT tb (nth l 0))) (fun _ => True) (fun _ => False) rfl rfl rfl (fun _ hk => hk.elim) (fun _ _ => trivial) HO2.out HB.out HB.out.size (by (try simp only [List.length_nil, List.length_cons]); omega) ?_
    intro v3 w3 ho hb hg hat
    obtain ⟨A3, c3, rfl⟩ := Kd.R_slice ho
    clear HB
    have HB := Aside0.mk hb
    have HO3 := Aside0.mk ho
    clear ho hb hg hat
    refine hK_.out _ _ (pw_cell_below HB.out HC0.out) (fun hHeld => ?_)
    clear hK_ Kq_
    refine norm_ (a' := ?_) ?_ ?_
    rotate_left
    · show Act.put _ (some 57) _ = _
      simp only [Act.put, List.setIfInBounds_toArray, List.set_cons_zero, List.set_cons_succ]
      rfl
    refine pure_ (i := 12) (N := some 7) (v := ?_) (a' := ?_) #[true, true, true, true, true, true, true, true, true, true, true, true, true] rfl rfl (any_of HT_.out (by kernel_rfl)) (fun _ _ _ h => h) (Or.inl ⟨by rfl, ?_⟩) ?_ ?_
    rotate_left
    · intro w'
      go_simp
      with_reducible rfl
    rotate_left
    · simp only [Act.put, List.setIfInBounds_toArray, List.set_cons_zero, List.set_cons_succ]
      rfl
    refine done_ (done_of HT_.out (by kernel_rfl)) ?_
    clear HT_ hHeld
    have hcx := pw_cell_below HB.out HC0.out
    go_wp2_with (go_at_call 17; refine (bad_any tb (nth l 0) _ ht hm0).mono ?_; rintro e w4 ⟨rfl, rfl⟩; rw [HB2.out])
    refine bodyPost_ret (v := .tuple #[.int .u64 0, .bool false, .slice A3 2 c3]) (by simp [results, Try.results12, go_sem]) rfl ?_
    exact ⟨_, retT3 (by rw [HE.out]) (by rw [HE.out]), by rw [HE.out]; exact HO3.out, HB.out⟩
  have hb2' : badT tb (nth l 0) = false := by simpa using hb2
  have HE : Aside0 (∀ r, halve l (badT tb) K 0 K [(nth l K, badT tb (nth l K)), (nth l 0, badT tb (nth l 0))] = r → lastS l (badT tb) = ⟨nth l r.1, true, r.2⟩) := ⟨fun r hr => by rw [lastS, if_neg hrise, ← hK, if_neg hb1, if_neg hK0, if_neg hb2, ← hr, hb1', hb2']⟩
  have HB1 := Aside0.mk hb1'
  have HB2 := Aside0.mk hb2'
  have hKn : K ≠ 0 := hK0
  clear hb1 hb1' hb2 hb2' hrise hK hK0
  go_enter Try.func12, Try.ntmps12
  go_wp2_with (go_at_call 16; refine (refrise_any _ _ _ l _ HR.out).mono ?_; rintro e w1 ⟨rfl, hb⟩; rw [hrise1]; replace HB := Aside0.mk (HB.out.trans (hb.mono HB.out.size)); clear hb)
  refine start_ (n := 15) (S := fun w' => w'.cell? (ad.add K) = some (.int .u64 (nth l K))) (ds := []) #[false, false, false, false, false, false, false, false, false, false, false, false, false, false, false] (by kernel_rfl) rfl rfl (pw_cell_below (below_drew HB.out) HCK.out) (fun hHeld => ?_); refine with_tab tabL5_ok (fun HT_ => ?_)
  have hb : Below w1.heap.size w1 w1.drew := below_drew (Below.refl _ _)
  replace HB := Aside0.mk (HB.out.trans (hb.mono HB.out.size))
  clear hb
  refine pure_ (i := 0) (N := some 17) (v := ?_) (a' := ?_) #[true, false, false, false, false, false, false, false, false, false, false, false, false, false, false] rfl rfl (any_of HT_.out (by kernel_rfl)) (fun _ _ _ h => h) (Or.inl ⟨by rfl, ?_⟩) ?_ ?_
  rotate_left
  · intro w'
    go_simp
    with_reducible rfl
  rotate_left
  · simp only [Act.put, List.setIfInBounds_toArray, List.set_cons_zero, List.set_cons_succ]
    rfl
  refine pure_ (i := 1) (N := some 18) (v := ?_) (a' := ?_) #[true, true, false, false, false, false, false, false, false, false, false, false, false, false, false] rfl rfl (any_of HT_.out (by kernel_rfl)) (fun _ _ _ h => h) (Or.inl ⟨by rfl, ?_⟩) ?_ ?_
  rotate_left
  · intro w'
    go_simp
    with_reducible rfl
  rotate_left
  · simp only [Act.put, List.setIfInBounds_toArray, List.set_cons_zero, List.set_cons_succ]
    rfl
  refine pure_ (i := 2) (N := some 19) (v := ?_) (a' := ?_) #[true, true, true, false, false, false, false, false, false, false, false, false, false, false, false] rfl rfl (any_of HT_.out (by kernel_rfl)) (fun _ _ _ h => h) (Or.inl ⟨by rfl, ?_⟩) ?_ ?_
  rotate_left
  · intro w'
    go_simp
    with_reducible rfl
  rotate_left
  · simp only [Act.put, List.setIfInBounds_toArray, List.set_cons_zero, List.set_cons_succ]
    rfl
  refine pure_ (i := 3) (N := some 20) (v := ?_) (a' := ?_) #[true, true, true, true, false, false, false, false, false, false, false, false, false, false, false] rfl rfl (any_of HT_.out (by kernel_rfl)) (fun _ _ _ h => h) (Or.inl ⟨by rfl, ?_⟩) ?_ ?_
  rotate_left
  · intro w'
    go_simp
    with_reducible rfl
  rotate_left
  · simp only [Act.put, List.setIfInBounds_toArray, List.set_cons_zero, List.set_cons_succ]
    rfl
  refine take_ (i := 4) (N := some 21) (v := ?_) (a' := ?_) #[true, true, true, true, true, false, false, false, false, false, false, false, false, false, false] rfl rfl (take_of HT_.out (by kernel_rfl)) (fun _ _ _ h => h) (Or.inl ⟨by rfl, ?_⟩) hHeld ?_ ?_
  rotate_left
  · intro w' hw'
    skip
    go_simp
    with_reducible rfl
  rotate_left
  · simp only [Act.put, List.setIfInBounds_toArray, List.set_cons_zero, List.set_cons_succ]
    rfl
  refine pure_ (i := 5) (N := some 22) (v := ?_) (a' := ?_) #[true, true, true, true, true, true, false, false, false, false, false, false, false, false, false] rfl rfl (any_of HT_.out (by kernel_rfl)) (fun _ _ _ h => h) (Or.inl ⟨by rfl, ?_⟩) ?_ ?_
  rotate_left
  · intro w'
    go_simp
    with_reducible rfl
  rotate_left
  · simp only [Act.put, List.setIfInBounds_toArray, List.set_cons_zero, List.set_cons_succ]
    rfl
  refine pure_ (i := 6) (N := some 23) (v := ?_) (a' := ?_) #[true, true, true, true, true, true, true, false, false, false, false, false, false, false, false] rfl rfl (any_of HT_.out (by kernel_rfl)) (fun _ _ _ h => h) (Or.inl ⟨by rfl, ?_⟩) ?_ ?_
  rotate_left
  · intro w'
    go_simp
    with_reducible rfl
  rotate_left
  · simp only [Act.put, List.setIfInBounds_toArray, List.set_cons_zero, List.set_cons_succ]
    rfl
  refine pure_ (i := 7) (N := some 24) (v := ?_) (a' := ?_) #[true, true, true, true, true, true, true, true, false, false, false, false, false, false, false] rfl rfl (any_of HT_.out (by kernel_rfl)) (fun _ _ _ h => h) (Or.inl ⟨by rfl, ?_⟩) ?_ ?_
  rotate_left
  · intro w'
    go_simp
    with_reducible rfl
  rotate_left
  · simp only [Act.put, List.setIfInBounds_toArray, List.set_cons_zero, List.set_cons_succ]
    rfl
  refine pure_ (i := 8) (N := some 25) (v := ?_) (a' := ?_) #[true, true, true, true, true, true, true, true, true, false, false, false, false, false, false] rfl rfl (any_of HT_.out (by kernel_rfl)) (fun _ _ _ h => h) (Or.inl ⟨by rfl, ?_⟩) ?_ ?_
  rotate_left
  · intro w'
    go_simp
    with_reducible rfl
  rotate_left
  · simp only [Act.put, List.setIfInBounds_toArray, List.set_cons_zero, List.set_cons_succ]
    rfl
  refine take_ (i := 9) (N := some 26) (v := ?_) (a' := ?_) #[true, true, true, true, true, true, true, true, true, true, false, false, false, false, false] rfl rfl (take_of HT_.out (by kernel_rfl)) (fun _ _ _ h => h) (Or.inl ⟨by rfl, ?_⟩) hHeld ?_ ?_
  rotate_left
  · intro w' hw'
    skip
    go_simp
    with_reducible rfl
  rotate_left
  · simp only [Act.put, List.setIfInBounds_toArray, List.set_cons_zero, List.set_cons_succ]
    rfl
  refine one_ (i := 10) (N := some 27) #[true, true, true, true, true, true, true, true, true, true, true, false, false, false, false] rfl rfl (one_of HT_.out (by kernel_rfl)) (by decide) (fun Kq_ hK_ => ?_)
  refine goes_ Try.func17 (by kernel_rfl) rfl #[.int .u64 tb, .int .u64 (nth l K)] (by rfl) rfl rfl (by (try simp only [List.map_toArray, List.map_cons, List.map_nil]); first | done | rfl) ?_
  with_reducible refine (bad_any tb (nth l K) _ ht hmK).mono ?_
  rintro e w' ⟨rfl, rfl⟩
  refine ⟨_, rfl, ?_⟩
  refine hK_.out _ _ (pw_cell_below HB.out HCK.out) (fun hHeld => ?_)
  clear hK_ Kq_
  refine norm_ (a' := ?_) ?_ ?_
  rotate_left
  · show Act.put _ (some 27) _ = _
    simp only [Act.put, List.setIfInBounds_toArray, List.set_cons_zero, List.set_cons_succ]
    rfl
  refine pure_ (i := 11) (N := some 28) (v := ?_) (a' := ?_) #[true, true, true, true, true, true, true, true, true, true, true, true, false, false, false] rfl rfl (any_of HT_.out (by kernel_rfl)) (fun _ _ _ h => h) (Or.inl ⟨by rfl, ?_⟩) ?_ ?_
  rotate_left
  · intro w'
    go_simp
    with_reducible rfl
  rotate_left
  · simp only [Act.put, List.setIfInBounds_toArray, List.set_cons_zero, List.set_cons_succ]
    rfl
  refine one_ (i := 12) (N := some 29) #[true, true, true, true, true, true, true, true, true, true, true, true, true, false, false] rfl rfl (one_of HT_.out (by kernel_rfl)) (by decide) (fun Kq_ hK_ => ?_)
  refine value_ (w1 := ?_) (v := ?_) (by rfl) rfl ?_ ?_
  rotate_left 2
  · go_simp
    constructor
    · rfl
    · rfl
  refine hK_.out _ _ (pw_cell_below (HB.out.alloc HB.out.size _) HCK.out) (fun hHeld => ?_)
  clear hK_ Kq_
  refine norm_ (a' := ?_) ?_ ?_
  rotate_left
  · show Act.put _ (some 29) _ = _
    simp only [Act.put, List.setIfInBounds_toArray, List.set_cons_zero, List.set_cons_succ]
    rfl
  refine one_ (i := 13) (N := some 30) #[true, true, true, true, true, true, true, true, true, true, true, true, true, true, false] rfl rfl (one_of HT_.out (by kernel_rfl)) (by decide) (fun Kq_ hK_ => ?_)
  refine Kd.R_append_step Lk (w0 := w) w.heap.size (by rfl) (.tmp 17) (.tmp 29) 25 42 (.agg #[.int .u64 0, .bool false]) 16 rfl Try.underlying25 infoLk2 rfl (by decide) (by omega) (.slice none 0 0) [] (nth l K, badT tb (nth l K)) (lkEnc (nth l K, badT tb (nth l K))) (fun _ => True) (fun _ => False) rfl rfl rfl (fun _ hk => hk.elim) (fun _ _ => trivial) (Kd.R_nil _ _ _ _ _) HB.out HB.out.size (by (try simp only [List.length_nil, List.length_cons]); omega) ?_
  intro v2 w2 ho hb hg hat
  obtain ⟨A2, c2, rfl⟩ := Kd.R_slice ho
  clear HB
  have HB := Aside0.mk hb
  have HO2 := Aside0.mk ho
  clear ho hb hg hat
  refine hK_.out _ _ (pw_cell_below HB.out HCK.out) (fun hHeld => ?_)
  clear hK_ Kq_
  refine norm_ (a' := ?_) ?_ ?_
  rotate_left
  · show Act.put _ (some 30) _ = _
    simp only [Act.put, List.setIfInBounds_toArray, List.set_cons_zero, List.set_cons_succ]
    rfl
  refine pure_ (i := 14) (N := some 7) (v := ?_) (a' := ?_) #[true, true, true, true, true, true, true, true, true, true, true, true, true, true, true] rfl rfl (any_of HT_.out (by kernel_rfl)) (fun _ _ _ h => h) (Or.inl ⟨by rfl, ?_⟩) ?_ ?_
  rotate_left
  · intro w'
    go_simp
    with_reducible rfl
  rotate_left
  · simp only [Act.put, List.setIfInBounds_toArray, List.set_cons_zero, List.set_cons_succ]
    rfl
  refine done_ (done_of HT_.out (by kernel_rfl)) ?_
  clear HT_ hHeld
  have hcx := pw_cell_below HB.out HCK.out
  go_wp2_with (go_at_call 17; refine (bad_any tb (nth l K) _ ht hmK).mono ?_; rintro e w3 ⟨rfl, rfl⟩; rw [HB1.out])
  clear hcx
  refine start_ (n := 13) (S := fun w' => w'.cell? (ad) = some (.int .u64 (nth l 0))) (ds := []) #[false, false, false, false, false, false, false, false, false, false, false, false, false] (by kernel_rfl) rfl rfl (pw_cell_below (below_drew HB.out) HC0.out) (fun hHeld => ?_); refine with_tab tabL10_ok (fun HT_ => ?_)
  have hb : Below w2.heap.size w2 w2.drew := below_drew (Below.refl _ _)
  replace HO2 := Aside0.mk (Kd.R_below HO2.out hb)
  replace HB := Aside0.mk (HB.out.trans (hb.mono HB.out.size))
  clear hb
  refine pure_ (i := 0) (N := some 46) (v := ?_) (a' := ?_) #[true, false, false, false, false, false, false, false, false, false, false, false, false] rfl rfl (any_of HT_.out (by kernel_rfl)) (fun _ _ _ h => h) (Or.inl ⟨by rfl, ?_⟩) ?_ ?_
  rotate_left
  · intro w'
    go_simp
    with_reducible rfl
  rotate_left
  · simp only [Act.put, List.setIfInBounds_toArray, List.set_cons_zero, List.set_cons_succ]
    rfl
  refine pure_ (i := 1) (N := some 47) (v := ?_) (a' := ?_) #[true, true, false, false, false, false, false, false, false, false, false, false, false] rfl rfl (any_of HT_.out (by kernel_rfl)) (fun _ _ _ h => h) (Or.inl ⟨by rfl, ?_⟩) ?_ ?_
  rotate_left
  · intro w'
    go_simp
    with_reducible rfl
  rotate_left
  · simp only [Act.put, List.setIfInBounds_toArray, List.set_cons_zero, List.set_cons_succ]
    rfl
  refine pure_ (i := 2) (N := some 48) (v := ?_) (a' := ?_) #[true, true, true, false, false, false, false, false, false, false, false, false, false] rfl rfl (any_of HT_.out (by kernel_rfl)) (fun _ _ _ h => h) (Or.inl ⟨by rfl, ?_⟩) ?_ ?_
  rotate_left
  · intro w'
    go_simp
    with_reducible rfl
  rotate_left
  · simp only [Act.put, List.setIfInBounds_toArray, List.set_cons_zero, List.set_cons_succ]
    rfl
  refine take_ (i := 3) (N := some 49) (v := ?_) (a' := ?_) #[true, true, true, true, false, false, false, false, false, false, false, false, false] rfl rfl (take_of HT_.out (by kernel_rfl)) (fun _ _ _ h => h) (Or.inl ⟨by rfl, ?_⟩) hHeld ?_ ?_
  rotate_left
  · intro w' hw'
    skip
    go_simp
    with_reducible rfl
  rotate_left
  · simp only [Act.put, List.setIfInBounds_toArray, List.set_cons_zero, List.set_cons_succ]
    rfl
  refine pure_ (i := 4) (N := some 50) (v := ?_) (a' := ?_) #[true, true, true, true, true, false, false, false, false, false, false, false, false] rfl rfl (any_of HT_.out (by kernel_rfl)) (fun _ _ _ h => h) (Or.inl ⟨by rfl, ?_⟩) ?_ ?_
  rotate_left
  · intro w'
    go_simp
    with_reducible rfl
  rotate_left
  · simp only [Act.put, List.setIfInBounds_toArray, List.set_cons_zero, List.set_cons_succ]
    rfl
  refine pure_ (i := 5) (N := some 51) (v := ?_) (a' := ?_) #[true, true, true, true, true, true, false, false, false, false, false, false, false] rfl rfl (any_of HT_.out (by kernel_rfl)) (fun _ _ _ h => h) (Or.inl ⟨by rfl, ?_⟩) ?_ ?_
  rotate_left
  · intro w'
    go_simp
    with_reducible rfl
  rotate_left
  · simp only [Act.put, List.setIfInBounds_toArray, List.set_cons_zero, List.set_cons_succ]
    rfl
  refine pure_ (i := 6) (N := some 52) (v := ?_) (a' := ?_) #[true, true, true, true, true, true, true, false, false, false, false, false, false] rfl rfl (any_of HT_.out (by kernel_rfl)) (fun _ _ _ h => h) (Or.inl ⟨by rfl, ?_⟩) ?_ ?_
  rotate_left
  · intro w'
    go_simp
    with_reducible rfl
  rotate_left
  · simp only [Act.put, List.setIfInBounds_toArray, List.set_cons_zero, List.set_cons_succ]
    rfl
  refine take_ (i := 7) (N := some 53) (v := ?_) (a' := ?_) #[true, true, true, true, true, true, true, true, false, false, false, false, false] rfl rfl (take_of HT_.out (by kernel_rfl)) (fun _ _ _ h => h) (Or.inl ⟨by rfl, ?_⟩) hHeld ?_ ?_
  rotate_left
  · intro w' hw'
    skip
    go_simp
    with_reducible rfl
  rotate_left
  · simp only [Act.put, List.setIfInBounds_toArray, List.set_cons_zero, List.set_cons_succ]
    rfl
  refine one_ (i := 8) (N := some 54) #[true, true, true, true, true, true, true, true, true, false, false, false, false] rfl rfl (one_of HT_.out (by kernel_rfl)) (by decide) (fun Kq_ hK_ => ?_)
  refine goes_ Try.func17 (by kernel_rfl) rfl #[.int .u64 tb, .int .u64 (nth l 0)] (by rfl) rfl rfl (by (try simp only [List.map_toArray, List.map_cons, List.map_nil]); first | done | rfl) ?_
  with_reducible refine (bad_any tb (nth l 0) _ ht hm0).mono ?_
  rintro e w' ⟨rfl, rfl⟩
  refine ⟨_, rfl, ?_⟩
  refine hK_.out _ _ (pw_cell_below HB.out HC0.out) (fun hHeld => ?_)
  clear hK_ Kq_
  refine norm_ (a' := ?_) ?_ ?_
  rotate_left
  · show Act.put _ (some 54) _ = _
    simp only [Act.put, List.setIfInBounds_toArray, List.set_cons_zero, List.set_cons_succ]
    rfl
  refine pure_ (i := 9) (N := some 55) (v := ?_) (a' := ?_) #[true, true, true, true, true, true, true, true, true, true, false, false, false] rfl rfl (any_of HT_.out (by kernel_rfl)) (fun _ _ _ h => h) (Or.inl ⟨by rfl, ?_⟩) ?_ ?_
  rotate_left
  · intro w'
    go_simp
    with_reducible rfl
  rotate_left
  · simp only [Act.put, List.setIfInBounds_toArray, List.set_cons_zero, List.set_cons_succ]
    rfl
  refine one_ (i := 10) (N := some 56) #[true, true, true, true, true, true, true, true, true, true, true, false, false] rfl rfl (one_of HT_.out (by kernel_rfl)) (by decide) (fun Kq_ hK_ => ?_)
  refine value_ (w1 := ?_) (v := ?_) (by rfl) rfl ?_ ?_
  rotate_left 2
  · go_simp
    constructor
    · rfl
    · rfl
  refine hK_.out _ _ (pw_cell_below (HB.out.alloc HB.out.size _) HC0.out) (fun hHeld => ?_)
  clear hK_ Kq_
  refine norm_ (a' := ?_) ?_ ?_
  rotate_left
  · show Act.put _ (some 56) _ = _
    simp only [Act.put, List.setIfInBounds_toArray, List.set_cons_zero, List.set_cons_succ]
    rfl
  refine one_ (i := 11) (N := some 57) #[true, true, true, true, true, true, true, true, true, true, true, true, false] rfl rfl (one_of HT_.out (by kernel_rfl)) (by decide) (fun Kq_ hK_ => ?_)
  refine Kd.R_append_step Lk (w0 := w) w.heap.size (by rfl) (.tmp 46) (.tmp 56) 25 42 (.agg #[.int .u64 0, .bool false]) 16 rfl Try.underlying25 infoLk2 rfl (by decide) (by omega) (.slice A2 1 c2) [(nth l K, badT tb (nth l K))] (nth l 0, badT tb (nth l 0)) (lkEnc (nth l 0, badT tb (nth l 0))) (fun _ => True) (fun _ => False) rfl rfl rfl (fun _ hk => hk.elim) (fun _ _ => trivial) HO2.out HB.out HB.out.size (by (try simp only [List.length_nil, List.length_cons]); omega) ?_
  intro v3 w3 ho hb hg hat
  obtain ⟨A3, c3, rfl⟩ := Kd.R_slice ho
  clear HB
  have HB := Aside0.mk hb
  have HO3 := Aside0.mk ho
  clear ho hb hg hat
  refine hK_.out _ _ (pw_cell_below HB.out HC0.out) (fun hHeld => ?_)
  clear hK_ Kq_
  refine norm_ (a' := ?_) ?_ ?_
  rotate_left
  · show Act.put _ (some 57) _ = _
    simp only [Act.put, List.setIfInBounds_toArray, List.set_cons_zero, List.set_cons_succ]
    rfl
  refine pure_ (i := 12) (N := some 7) (v := ?_) (a' := ?_) #[true, true, true, true, true, true, true, true, true, true, true, true, true] rfl rfl (any_of HT_.out (by kernel_rfl)) (fun _ _ _ h => h) (Or.inl ⟨by rfl, ?_⟩) ?_ ?_
  rotate_left
  · intro w'
    go_simp
    with_reducible rfl
  rotate_left
  · simp only [Act.put, List.setIfInBounds_toArray, List.set_cons_zero, List.set_cons_succ]
    rfl
  refine done_ (done_of HT_.out (by kernel_rfl)) ?_
  clear HT_ hHeld
  have hcx := pw_cell_below HB.out HC0.out
  go_wp2_with (go_at_call 17; refine (bad_any tb (nth l 0) _ ht hm0).mono ?_; rintro e w4 ⟨rfl, rfl⟩; rw [HB2.out])
  clear hcx hK00 hK01 HB1 HB2
  go_loopg [7, 8, 9] K (fun gk v7 v8 v9 w' => ∃ (i k fu : Nat) (acc : List (Int × Bool)) (Ax : Option Addr) (cx : Nat), v7 = .slice Ax acc.length cx ∧ v8 = .int .i64 (k : Int) ∧ v9 = .int .i64 (i : Int) ∧ i < k ∧ k ≤ K ∧ k - i ≤ gk ∧ k - i ≤ fu ∧ acc.length + gk ≤ K + 2 ∧
    Aside0 (Kd.R Lk 42 w' w.heap.size (fun _ => True) (.slice Ax acc.length cx) acc) ∧ Aside0 (Below w.heap.size w w') ∧ Aside0 (halve l (badT tb) K 0 K [(nth l K, badT tb (nth l K)), (nth l 0, badT tb (nth l 0))] = halve l (badT tb) fu i k acc))
  case atStart => exact ⟨0, K, K, [(nth l K, badT tb (nth l K)), (nth l 0, badT tb (nth l 0))], A3, c3, rfl, rfl, rfl, by omega, by omega, by omega, by omega, by simp; omega, HO3, HB, ⟨rfl⟩⟩
  case round =>
    clear HB HO2 HO3
    obtain ⟨i, k, fu, acc, Ax, cx, rfl, rfl, rfl, hik, hkK, hkg, hkf, hal, HO, HB, HH⟩ := hrel
    by_cases hgo : k - i ≤ 1
    · have HE1 := Aside0.mk (HE.out _ (HH.out.trans (halve_end hgo)))
      have hcx := pw_cell_below HB.out (C_atx HR.out i (by omega))
      have f1 : decide ((1 : Int) < (k : Int) - (i : Int)) = false := decide_eq_false (by omega)
      go_wp2_with (fail)
      refine bodyPost_ret (v := .tuple #[.int .u64 (nth l i), .bool true, .slice Ax acc.length cx]) (by simp [results, Try.results12, go_sem]) rfl ?_
      exact ⟨.slice Ax acc.length cx, retT3 (by rw [HE1.out]) (by rw [HE1.out]), by rw [HE1.out]; exact HO.out, HB.out⟩
    · have f1 : decide ((1 : Int) < (k : Int) - (i : Int)) = true := decide_eq_true (by omega)
      have hm1 : (i + k) / 2 < l.length := by omega
      have hmm : 0 ≤ nth l ((i + k) / 2) := hl _ (nth_mem hm1)
      obtain ⟨M, hM⟩ : ∃ M, M = (i + k) / 2 := ⟨_, rfl⟩
      rw [← hM] at hm1 hmm
      have e1 : ((i : Int) + (k : Int)) / 2 = (M : Int) := by omega
      have e2 : IntKind.i64.wrap ((i : Int) + (k : Int)) = (i : Int) + (k : Int) := IntWalk.i64_in _ (by omega)
      have e3 : IntKind.i64.wrap (M : Int) = (M : Int) := IntWalk.i64_in _ (by omega)
      have e4 : (0 : Int) ≤ (M : Int) := by omega
      have e5 : (M : Int) < (l.length : Int) := by omega
      have hiM : i < M := by omega
      have hMk : M < k := by omega
      have HCM := Aside0.mk (C_atx HR.out M hm1)
      by_cases hb : badT tb (nth l M) = true
      · obtain ⟨g2, hg2, hH2⟩ := halve_bad hgo hkf (by rw [← hM]; exact hb)
        have HH2 := Aside0.mk (HH.out.trans (by rw [hH2, ← hM]))
        rw [← hM] at hg2
        have HB1 := Aside0.mk hb
        clear hH2 hb HH hM
        go_wp2_with (fail)
        refine start_ (n := 15) (S := fun w' => w'.cell? (ad.add M) = some (.int .u64 (nth l M))) (ds := []) #[false, false, false, false, false, false, false, false, false, false, false, false, false, false, false] (by kernel_rfl) rfl rfl (pw_cell_below (below_drew HB.out) HCM.out) (fun hHeld => ?_); refine with_tab tabL16_ok (fun HT_ => ?_)
        have hb : Below wr.heap.size wr wr.drew := below_drew (Below.refl _ _)
        replace HO := Aside0.mk (Kd.R_below HO.out hb)
        replace HB := Aside0.mk (HB.out.trans (hb.mono HB.out.size))
        clear hb
        refine pure_ (i := 0) (N := some 72) (v := ?_) (a' := ?_) #[true, false, false, false, false, false, false, false, false, false, false, false, false, false, false] rfl rfl (any_of HT_.out (by kernel_rfl)) (fun _ _ _ h => h) (Or.inl ⟨by rfl, ?_⟩) ?_ ?_
        rotate_left
        · intro w'
          go_simp
          with_reducible rfl
        rotate_left
        · simp only [Act.put, List.setIfInBounds_toArray, List.set_cons_zero, List.set_cons_succ]
          rfl
        refine pure_ (i := 1) (N := some 73) (v := ?_) (a' := ?_) #[true, true, false, false, false, false, false, false, false, false, false, false, false, false, false] rfl rfl (any_of HT_.out (by kernel_rfl)) (fun _ _ _ h => h) (Or.inl ⟨by rfl, ?_⟩) ?_ ?_
        rotate_left
        · intro w'
          go_simp
          with_reducible rfl
        rotate_left
        · simp only [Act.put, List.setIfInBounds_toArray, List.set_cons_zero, List.set_cons_succ]
          rfl
        refine pure_ (i := 2) (N := some 74) (v := ?_) (a' := ?_) #[true, true, true, false, false, false, false, false, false, false, false, false, false, false, false] rfl rfl (any_of HT_.out (by kernel_rfl)) (fun _ _ _ h => h) (Or.inl ⟨by rfl, ?_⟩) ?_ ?_
        rotate_left
        · intro w'
          go_simp
          with_reducible rfl
        rotate_left
        · simp only [Act.put, List.setIfInBounds_toArray, List.set_cons_zero, List.set_cons_succ]
          rfl
        refine pure_ (i := 3) (N := some 75) (v := ?_) (a' := ?_) #[true, true, true, true, false, false, false, false, false, false, false, false, false, false, false] rfl rfl (any_of HT_.out (by kernel_rfl)) (fun _ _ _ h => h) (Or.inl ⟨by rfl, ?_⟩) ?_ ?_
        rotate_left
        · intro w'
          go_simp
          with_reducible rfl
        rotate_left
        · simp only [Act.put, List.setIfInBounds_toArray, List.set_cons_zero, List.set_cons_succ]
          rfl
        refine take_ (i := 4) (N := some 76) (v := ?_) (a' := ?_) #[true, true, true, true, true, false, false, false, false, false, false, false, false, false, false] rfl rfl (take_of HT_.out (by kernel_rfl)) (fun _ _ _ h => h) (Or.inl ⟨by rfl, ?_⟩) hHeld ?_ ?_
        rotate_left
        · intro w' hw'
          skip
          go_simp
          with_reducible rfl
        rotate_left
        · simp only [Act.put, List.setIfInBounds_toArray, List.set_cons_zero, List.set_cons_succ]
          rfl
        refine pure_ (i := 5) (N := some 77) (v := ?_) (a' := ?_) #[true, true, true, true, true, true, false, false, false, false, false, false, false, false, false] rfl rfl (any_of HT_.out (by kernel_rfl)) (fun _ _ _ h => h) (Or.inl ⟨by rfl, ?_⟩) ?_ ?_
        rotate_left
        · intro w'
          go_simp
          with_reducible rfl
        rotate_left
        · simp only [Act.put, List.setIfInBounds_toArray, List.set_cons_zero, List.set_cons_succ]
          rfl
        refine pure_ (i := 6) (N := some 78) (v := ?_) (a' := ?_) #[true, true, true, true, true, true, true, false, false, false, false, false, false, false, false] rfl rfl (any_of HT_.out (by kernel_rfl)) (fun _ _ _ h => h) (Or.inl ⟨by rfl, ?_⟩) ?_ ?_
        rotate_left
        · intro w'
          go_simp
          with_reducible rfl
        rotate_left
        · simp only [Act.put, List.setIfInBounds_toArray, List.set_cons_zero, List.set_cons_succ]
          rfl
        refine pure_ (i := 7) (N := some 79) (v := ?_) (a' := ?_) #[true, true, true, true, true, true, true, true, false, false, false, false, false, false, false] rfl rfl (any_of HT_.out (by kernel_rfl)) (fun _ _ _ h => h) (Or.inl ⟨by rfl, ?_⟩) ?_ ?_
        rotate_left
        · intro w'
          go_simp
          with_reducible rfl
        rotate_left
        · simp only [Act.put, List.setIfInBounds_toArray, List.set_cons_zero, List.set_cons_succ]
          rfl
        refine pure_ (i := 8) (N := some 80) (v := ?_) (a' := ?_) #[true, true, true, true, true, true, true, true, true, false, false, false, false, false, false] rfl rfl (any_of HT_.out (by kernel_rfl)) (fun _ _ _ h => h) (Or.inl ⟨by rfl, ?_⟩) ?_ ?_
        rotate_left
        · intro w'
          go_simp
          with_reducible rfl
        rotate_left
        · simp only [Act.put, List.setIfInBounds_toArray, List.set_cons_zero, List.set_cons_succ]
          rfl
        refine take_ (i := 9) (N := some 81) (v := ?_) (a' := ?_) #[true, true, true, true, true, true, true, true, true, true, false, false, false, false, false] rfl rfl (take_of HT_.out (by kernel_rfl)) (fun _ _ _ h => h) (Or.inl ⟨by rfl, ?_⟩) hHeld ?_ ?_
        rotate_left
        · intro w' hw'
          skip
          go_simp
          with_reducible rfl
        rotate_left
        · simp only [Act.put, List.setIfInBounds_toArray, List.set_cons_zero, List.set_cons_succ]
          rfl
        refine one_ (i := 10) (N := some 82) #[true, true, true, true, true, true, true, true, true, true, true, false, false, false, false] rfl rfl (one_of HT_.out (by kernel_rfl)) (by decide) (fun Kq_ hK_ => ?_)
        refine goes_ Try.func17 (by kernel_rfl) rfl #[.int .u64 tb, .int .u64 (nth l M)] (by rfl) rfl rfl (by (try simp only [List.map_toArray, List.map_cons, List.map_nil]); first | done | rfl) ?_
        with_reducible refine (bad_any tb (nth l M) _ ht hmm).mono ?_
        rintro e w' ⟨rfl, rfl⟩
        refine ⟨_, rfl, ?_⟩
        refine hK_.out _ _ (pw_cell_below HB.out HCM.out) (fun hHeld => ?_)
        clear hK_ Kq_
        refine norm_ (a' := ?_) ?_ ?_
        rotate_left
        · show Act.put _ (some 82) _ = _
          simp only [Act.put, List.setIfInBounds_toArray, List.set_cons_zero, List.set_cons_succ]
          rfl
        refine pure_ (i := 11) (N := some 83) (v := ?_) (a' := ?_) #[true, true, true, true, true, true, true, true, true, true, true, true, false, false, false] rfl rfl (any_of HT_.out (by kernel_rfl)) (fun _ _ _ h => h) (Or.inl ⟨by rfl, ?_⟩) ?_ ?_
        rotate_left
        · intro w'
          go_simp
          with_reducible rfl
        rotate_left
        · simp only [Act.put, List.setIfInBounds_toArray, List.set_cons_zero, List.set_cons_succ]
          rfl
        refine one_ (i := 12) (N := some 84) #[true, true, true, true, true, true, true, true, true, true, true, true, true, false, false] rfl rfl (one_of HT_.out (by kernel_rfl)) (by decide) (fun Kq_ hK_ => ?_)
        refine value_ (w1 := ?_) (v := ?_) (by rfl) rfl ?_ ?_
        rotate_left 2
        · go_simp
          constructor
          · rfl
          · rfl
        refine hK_.out _ _ (pw_cell_below (HB.out.alloc HB.out.size _) HCM.out) (fun hHeld => ?_)
        clear hK_ Kq_
        refine norm_ (a' := ?_) ?_ ?_
        rotate_left
        · show Act.put _ (some 84) _ = _
          simp only [Act.put, List.setIfInBounds_toArray, List.set_cons_zero, List.set_cons_succ]
          rfl
        refine one_ (i := 13) (N := some 85) #[true, true, true, true, true, true, true, true, true, true, true, true, true, true, false] rfl rfl (one_of HT_.out (by kernel_rfl)) (by decide) (fun Kq_ hK_ => ?_)
        refine Kd.R_append_step Lk (w0 := w) w.heap.size (by rfl) (.tmp 72) (.tmp 84) 25 42 (.agg #[.int .u64 0, .bool false]) 16 rfl Try.underlying25 infoLk2 rfl (by decide) (by omega) (.slice Ax acc.length cx) acc (nth l M, badT tb (nth l M)) (lkEnc (nth l M, badT tb (nth l M))) (fun _ => True) (fun _ => False) rfl rfl rfl (fun _ hk => hk.elim) (fun _ _ => trivial) HO.out HB.out HB.out.size (by (try simp only [List.length_nil, List.length_cons]); omega) ?_
        intro v4 w4 ho hb hg hat
        obtain ⟨A4, c4, rfl⟩ := Kd.R_slice ho
        clear HB
        have HB := Aside0.mk hb
        have HO4 := Aside0.mk ho
        clear ho hb hg hat
        refine hK_.out _ _ (pw_cell_below HB.out HCM.out) (fun hHeld => ?_)
        clear hK_ Kq_
        refine norm_ (a' := ?_) ?_ ?_
        rotate_left
        · show Act.put _ (some 85) _ = _
          simp only [Act.put, List.setIfInBounds_toArray, List.set_cons_zero, List.set_cons_succ]
          rfl
        refine pure_ (i := 14) (N := some 7) (v := ?_) (a' := ?_) #[true, true, true, true, true, true, true, true, true, true, true, true, true, true, true] rfl rfl (any_of HT_.out (by kernel_rfl)) (fun _ _ _ h => h) (Or.inl ⟨by rfl, ?_⟩) ?_ ?_
        rotate_left
        · intro w'
          go_simp
          with_reducible rfl
        rotate_left
        · simp only [Act.put, List.setIfInBounds_toArray, List.set_cons_zero, List.set_cons_succ]
          rfl
        refine done_ (done_of HT_.out (by kernel_rfl)) ?_
        clear HT_ hHeld
        have hcx := pw_cell_below HB.out HCM.out
        go_wp2_with (go_at_call 17; refine (bad_any tb (nth l M) _ ht hmm).mono ?_; rintro e w3 ⟨rfl, rfl⟩; rw [HB1.out])
        rw [HB1.out] at HO4
        go_roundg (gk - 1)
        case measure => omega
        case rel => exact ⟨i, M, g2, acc ++ [(nth l M, true)], A4, c4, by simp, by go_num, by go_num, hiM, by omega, by omega, by omega, by simp; omega, ⟨by simpa using HO4.out⟩, HB, HH2⟩
      · obtain ⟨g2, hg2, hH2⟩ := halve_good hgo hkf (by rw [← hM]; exact hb)
        have HH2 := Aside0.mk (HH.out.trans (by rw [hH2, ← hM]))
        rw [← hM] at hg2
        have HB1 := Aside0.mk (show badT tb (nth l M) = false by simpa using hb)
        clear hH2 hb HH hM
        go_wp2_with (fail)
        refine start_ (n := 15) (S := fun w' => w'.cell? (ad.add M) = some (.int .u64 (nth l M))) (ds := []) #[false, false, false, false, false, false, false, false, false, false, false, false, false, false, false] (by kernel_rfl) rfl rfl (pw_cell_below (below_drew HB.out) HCM.out) (fun hHeld => ?_); refine with_tab tabL16_ok (fun HT_ => ?_)
        have hb : Below wr.heap.size wr wr.drew := below_drew (Below.refl _ _)
        replace HO := Aside0.mk (Kd.R_below HO.out hb)
        replace HB := Aside0.mk (HB.out.trans (hb.mono HB.out.size))
        clear hb
        refine pure_ (i := 0) (N := some 72) (v := ?_) (a' := ?_) #[true, false, false, false, false, false, false, false, false, false, false, false, false, false, false] rfl rfl (any_of HT_.out (by kernel_rfl)) (fun _ _ _ h => h) (Or.inl ⟨by rfl, ?_⟩) ?_ ?_
        rotate_left
        · intro w'
          go_simp
          with_reducible rfl
        rotate_left
        · simp only [Act.put, List.setIfInBounds_toArray, List.set_cons_zero, List.set_cons_succ]
          rfl
        refine pure_ (i := 1) (N := some 73) (v := ?_) (a' := ?_) #[true, true, false, false, false, false, false, false, false, false, false, false, false, false, false] rfl rfl (any_of HT_.out (by kernel_rfl)) (fun _ _ _ h => h) (Or.inl ⟨by rfl, ?_⟩) ?_ ?_
        rotate_left
        · intro w'
          go_simp
          with_reducible rfl
        rotate_left
        · simp only [Act.put, List.setIfInBounds_toArray, List.set_cons_zero, List.set_cons_succ]
          rfl
        refine pure_ (i := 2) (N := some 74) (v := ?_) (a' := ?_) #[true, true, true, false, false, false, false, false, false, false, false, false, false, false, false] rfl rfl (any_of HT_.out (by kernel_rfl)) (fun _ _ _ h => h) (Or.inl ⟨by rfl, ?_⟩) ?_ ?_
        rotate_left
        · intro w'
          go_simp
          with_reducible rfl
        rotate_left
        · simp only [Act.put, List.setIfInBounds_toArray, List.set_cons_zero, List.set_cons_succ]
          rfl
        refine pure_ (i := 3) (N := some 75) (v := ?_) (a' := ?_) #[true, true, true, true, false, false, false, false, false, false, false, false, false, false, false] rfl rfl (any_of HT_.out (by kernel_rfl)) (fun _ _ _ h => h) (Or.inl ⟨by rfl, ?_⟩) ?_ ?_
        rotate_left
        · intro w'
          go_simp
          with_reducible rfl
        rotate_left
        · simp only [Act.put, List.setIfInBounds_toArray, List.set_cons_zero, List.set_cons_succ]
          rfl
        refine take_ (i := 4) (N := some 76) (v := ?_) (a' := ?_) #[true, true, true, true, true, false, false, false, false, false, false, false, false, false, false] rfl rfl (take_of HT_.out (by kernel_rfl)) (fun _ _ _ h => h) (Or.inl ⟨by rfl, ?_⟩) hHeld ?_ ?_
        rotate_left
        · intro w' hw'
          skip
          go_simp
          with_reducible rfl
        rotate_left
        · simp only [Act.put, List.setIfInBounds_toArray, List.set_cons_zero, List.set_cons_succ]
          rfl
        refine pure_ (i := 5) (N := some 77) (v := ?_) (a' := ?_) #[true, true, true, true, true, true, false, false, false, false, false, false, false, false, false] rfl rfl (any_of HT_.out (by kernel_rfl)) (fun _ _ _ h => h) (Or.inl ⟨by rfl, ?_⟩) ?_ ?_
        rotate_left
        · intro w'
          go_simp
          with_reducible rfl
        rotate_left
        · simp only [Act.put, List.setIfInBounds_toArray, List.set_cons_zero, List.set_cons_succ]
          rfl
        refine pure_ (i := 6) (N := some 78) (v := ?_) (a' := ?_) #[true, true, true, true, true, true, true, false, false, false, false, false, false, false, false] rfl rfl (any_of HT_.out (by kernel_rfl)) (fun _ _ _ h => h) (Or.inl ⟨by rfl, ?_⟩) ?_ ?_
        rotate_left
        · intro w'
          go_simp
          with_reducible rfl
        rotate_left
        · simp only [Act.put, List.setIfInBounds_toArray, List.set_cons_zero, List.set_cons_succ]
          rfl
        refine pure_ (i := 7) (N := some 79) (v := ?_) (a' := ?_) #[true, true, true, true, true, true, true, true, false, false, false, false, false, false, false] rfl rfl (any_of HT_.out (by kernel_rfl)) (fun _ _ _ h => h) (Or.inl ⟨by rfl, ?_⟩) ?_ ?_
        rotate_left
        · intro w'
          go_simp
          with_reducible rfl
        rotate_left
        · simp only [Act.put, List.setIfInBounds_toArray, List.set_cons_zero, List.set_cons_succ]
          rfl
        refine pure_ (i := 8) (N := some 80) (v := ?_) (a' := ?_) #[true, true, true, true, true, true, true, true, true, false, false, false, false, false, false] rfl rfl (any_of HT_.out (by kernel_rfl)) (fun _ _ _ h => h) (Or.inl ⟨by rfl, ?_⟩) ?_ ?_
        rotate_left
        · intro w'
          go_simp
          with_reducible rfl
        rotate_left
        · simp only [Act.put, List.setIfInBounds_toArray, List.set_cons_zero, List.set_cons_succ]
          rfl
        refine take_ (i := 9) (N := some 81) (v := ?_) (a' := ?_) #[true, true, true, true, true, true, true, true, true, true, false, false, false, false, false] rfl rfl (take_of HT_.out (by kernel_rfl)) (fun _ _ _ h => h) (Or.inl ⟨by rfl, ?_⟩) hHeld ?_ ?_
        rotate_left
        · intro w' hw'
          skip
          go_simp
          with_reducible rfl
        rotate_left
        · simp only [Act.put, List.setIfInBounds_toArray, List.set_cons_zero, List.set_cons_succ]
          rfl
        refine one_ (i := 10) (N := some 82) #[true, true, true, true, true, true, true, true, true, true, true, false, false, false, false] rfl rfl (one_of HT_.out (by kernel_rfl)) (by decide) (fun Kq_ hK_ => ?_)
        refine goes_ Try.func17 (by kernel_rfl) rfl #[.int .u64 tb, .int .u64 (nth l M)] (by rfl) rfl rfl (by (try simp only [List.map_toArray, List.map_cons, List.map_nil]); first | done | rfl) ?_
        with_reducible refine (bad_any tb (nth l M) _ ht hmm).mono ?_
        rintro e w' ⟨rfl, rfl⟩
        refine ⟨_, rfl, ?_⟩
        refine hK_.out _ _ (pw_cell_below HB.out HCM.out) (fun hHeld => ?_)
        clear hK_ Kq_
        refine norm_ (a' := ?_) ?_ ?_
        rotate_left
        · show Act.put _ (some 82) _ = _
          simp only [Act.put, List.setIfInBounds_toArray, List.set_cons_zero, List.set_cons_succ]
          rfl
        refine pure_ (i := 11) (N := some 83) (v := ?_) (a' := ?_) #[true, true, true, true, true, true, true, true, true, true, true, true, false, false, false] rfl rfl (any_of HT_.out (by kernel_rfl)) (fun _ _ _ h => h) (Or.inl ⟨by rfl, ?_⟩) ?_ ?_
        rotate_left
        · intro w'
          go_simp
          with_reducible rfl
        rotate_left
        · simp only [Act.put, List.setIfInBounds_toArray, List.set_cons_zero, List.set_cons_succ]
          rfl
        refine one_ (i := 12) (N := some 84) #[true, true, true, true, true, true, true, true, true, true, true, true, true, false, false] rfl rfl (one_of HT_.out (by kernel_rfl)) (by decide) (fun Kq_ hK_ => ?_)
        refine value_ (w1 := ?_) (v := ?_) (by rfl) rfl ?_ ?_
        rotate_left 2
        · go_simp
          constructor
          · rfl
          · rfl
        refine hK_.out _ _ (pw_cell_below (HB.out.alloc HB.out.size _) HCM.out) (fun hHeld => ?_)
        clear hK_ Kq_
        refine norm_ (a' := ?_) ?_ ?_
        rotate_left
        · show Act.put _ (some 84) _ = _
          simp only [Act.put, List.setIfInBounds_toArray, List.set_cons_zero, List.set_cons_succ]
          rfl
        refine one_ (i := 13) (N := some 85) #[true, true, true, true, true, true, true, true, true, true, true, true, true, true, false] rfl rfl (one_of HT_.out (by kernel_rfl)) (by decide) (fun Kq_ hK_ => ?_)
        refine Kd.R_append_step Lk (w0 := w) w.heap.size (by rfl) (.tmp 72) (.tmp 84) 25 42 (.agg #[.int .u64 0, .bool false]) 16 rfl Try.underlying25 infoLk2 rfl (by decide) (by omega) (.slice Ax acc.length cx) acc (nth l M, badT tb (nth l M)) (lkEnc (nth l M, badT tb (nth l M))) (fun _ => True) (fun _ => False) rfl rfl rfl (fun _ hk => hk.elim) (fun _ _ => trivial) HO.out HB.out HB.out.size (by (try simp only [List.length_nil, List.length_cons]); omega) ?_
        intro v4 w4 ho hb hg hat
        obtain ⟨A4, c4, rfl⟩ := Kd.R_slice ho
        clear HB
        have HB := Aside0.mk hb
        have HO4 := Aside0.mk ho
        clear ho hb hg hat
        refine hK_.out _ _ (pw_cell_below HB.out HCM.out) (fun hHeld => ?_)
        clear hK_ Kq_
        refine norm_ (a' := ?_) ?_ ?_
        rotate_left
        · show Act.put _ (some 85) _ = _
          simp only [Act.put, List.setIfInBounds_toArray, List.set_cons_zero, List.set_cons_succ]
          rfl
        refine pure_ (i := 14) (N := some 7) (v := ?_) (a' := ?_) #[true, true, true, true, true, true, true, true, true, true, true, true, true, true, true] rfl rfl (any_of HT_.out (by kernel_rfl)) (fun _ _ _ h => h) (Or.inl ⟨by rfl, ?_⟩) ?_ ?_
        rotate_left
        · intro w'
          go_simp
          with_reducible rfl
        rotate_left
        · simp only [Act.put, List.setIfInBounds_toArray, List.set_cons_zero, List.set_cons_succ]
          rfl
        refine done_ (done_of HT_.out (by kernel_rfl)) ?_
        clear HT_ hHeld
        have hcx := pw_cell_below HB.out HCM.out
        go_wp2_with (go_at_call 17; refine (bad_any tb (nth l M) _ ht hmm).mono ?_; rintro e w3 ⟨rfl, rfl⟩; rw [HB1.out])
        rw [HB1.out] at HO4
        go_roundg (gk - 1)
        case measure => omega
        case rel => exact ⟨M, k, g2, acc ++ [(nth l M, false)], A4, c4, by simp, by go_num, by go_num, hMk, by omega, by omega, by omega, by simp; omega, ⟨by simpa using HO4.out⟩, HB, HH2⟩


set_option maxHeartbeats 1600000 in
set_option maxRecDepth 100000 in
theorem refeach_any (A : Option Addr) (n c : Nat) (l : List Int) (tb : Int) (w : World) (hr : RdM w A n l) (hl : ∀ x ∈ l, 0 ≤ x) (hn : n ≤ 100000) (ht : 0 ≤ tb) :
    Calls Try.prog 18 #[.slice A n c, .int .u64 tb] w fun e w' =>
      ∃ v, e = .returned (.tuple #[.int .u64 (eachS l (badT tb)).m, .bool (eachS l (badT tb)).ok, v]) ∧ Kd.R Lk 42 w' w.heap.size (fun _ => True) v (eachS l (badT tb)).l ∧ Below w.heap.size w w' := by
  obtain rfl := C_len hr
  have HB := Aside0.mk (Below.refl w.heap.size w)
  have HR := Aside0.mk hr
  clear hr
  by_cases hrise : riseB l = false
  · have HE : Aside0 (eachS l (badT tb) = ⟨0, false, []⟩) := ⟨by rw [eachS, if_pos hrise]⟩
    go_enter Try.func18, Try.ntmps18
    go_wp2_with (go_at_call 16; refine (refrise_any _ _ _ l _ HR.out).mono ?_; rintro e w1 ⟨rfl, hb⟩; rw [hrise]; replace HB := Aside0.mk (HB.out.trans (hb.mono HB.out.size)); clear hb)
    refine bodyPost_ret (v := .tuple #[.int .u64 0, .bool false, .slice none 0 0]) (by simp [results, Try.results18, go_sem]) rfl ?_
    exact ⟨_, retT3 (by rw [HE.out]) (by rw [HE.out]), by rw [HE.out]; exact Kd.R_nil _ _ _ _ _, HB.out⟩
  have hrise1 : riseB l = true := by simpa using hrise
  obtain ⟨hl0, _⟩ := riseB_spec hrise1
  obtain ⟨ad, rfl, _⟩ := C_at HR.out 0 hl0
  have HN := Aside0.mk hrise
  clear hrise
  go_enter Try.func18, Try.ntmps18
  go_wp2_with (go_at_call 16; refine (refrise_any _ _ _ l _ HR.out).mono ?_; rintro e w1 ⟨rfl, hb⟩; rw [hrise1]; replace HB := Aside0.mk (HB.out.trans (hb.mono HB.out.size)); clear hb)
  go_loopg [7, 8, 9, 10, 11] l.length (fun gk v7 v8 v9 v10 v11 w' => ∃ (i k : Nat) (x : Int) (o gd : Bool) (Ax : Option Addr) (cx : Nat), v7 = .slice Ax i cx ∧ v8 = .int .u64 x ∧ v9 = .bool o ∧ v10 = .bool gd ∧ v11 = .int .i64 (i : Int) ∧ i + gk = l.length ∧
    Aside0 (x = (if k = 0 then 0 else nth l (k - 1)) ∧ o = decide (0 < k) ∧ (gd = true → k = i ∧ fstB l (badT tb) i = l.length) ∧ (gd = false → fstB l (badT tb) i = k ∧ k < i)) ∧
    Aside0 (Kd.R Lk 42 w' w.heap.size (fun _ => True) (.slice Ax i cx) (lkB l (badT tb) i)) ∧ Aside0 (Below w.heap.size w w'))
  case atStart => exact ⟨0, 0, 0, false, true, none, 0, rfl, rfl, rfl, rfl, rfl, by omega, ⟨rfl, rfl, fun _ => ⟨rfl, rfl⟩, fun h => (by cases h)⟩, ⟨Kd.R_nil _ _ _ _ _⟩, HB⟩
  case round =>
    clear HB
    obtain ⟨i, k, x, o, gd, Ax, cx, rfl, rfl, rfl, rfl, rfl, hig, HF, HO, HB⟩ := hrel
    by_cases hgo : i < l.length
    · have HCM := Aside0.mk (C_atx HR.out i hgo)
      have hcx := pw_cell_below HB.out HCM.out
      have hmm : 0 ≤ nth l i := hl _ (nth_mem hgo)
      cases gd with
      | true =>
        obtain ⟨hx, ho, hk, _⟩ := HF.out
        obtain ⟨rfl, hk2⟩ := hk rfl
        by_cases hb : badT tb (nth l k) = true
        · have HF2 : Aside0 (x = (if k = 0 then 0 else nth l (k - 1)) ∧ o = decide (0 < k) ∧ (false = true → k = k + 1 ∧ fstB l (badT tb) (k + 1) = l.length) ∧ (false = false → fstB l (badT tb) (k + 1) = k ∧ k < k + 1)) := ⟨hx, ho, fun h => (by cases h), fun _ => ⟨by rw [fstB, if_pos ⟨hb, hk2⟩], by omega⟩⟩
          have HBB := Aside0.mk hb
          clear hx ho hk hk2 HF hb
          go_wp2_with (first
            | ((with_reducible refine gate_builtin (b := .append) (xs := #[.tmp 28, .tmp 35]) rfl ?_); at_builtin; go_must (refine Kd.R_append Lk (w0 := w) w.heap.size rfl (.tmp 28) (.tmp 35) 25 42 (.agg #[.int .u64 0, .bool false]) 16 rfl Try.underlying25 infoLk2 rfl (by decide) (by omega) (.slice Ax k cx) (lkB l (badT tb) k) (nth l k, true) (lkEnc (nth l k, true)) (fun _ => True) (fun _ => False) rfl rfl ?hp ?hokp (fun _ _ => trivial) HO.out HB.out HB.out.size (by rw [lkB_length]; omega) ?_; (case hp => rfl); (case hokp => exact fun k hk => hk.elim); intro v1 w1 ho hb hgr hat; obtain ⟨A1, c1, rfl⟩ := Kd.R_slice ho; rw [List.length_append, lkB_length, List.length_singleton] at ho; have HO1 := Aside0.mk ho; clear HB; have HB := Aside0.mk hb; replace hcx := pw_cell_below HB.out HCM.out; clear ho hb hgr hat))
            | (go_at_call 17; refine (bad_any tb (nth l k) _ ht hmm).mono ?_; rintro e w3 ⟨rfl, rfl⟩; rw [HBB.out]))
          go_roundg (gk - 1)
          case measure => omega
          case rel => exact ⟨k + 1, k, x, o, false, A1, c1, by rw [lkB_length], rfl, by first | rfl | simp [HBB.out], by first | rfl | simp [HBB.out], by go_num, by omega, ⟨by have := HF2.out; simpa using this⟩, ⟨by rw [lkB]; (try rw [HBB.out]); exact HO1.out⟩, HB⟩
        · have HBB := Aside0.mk (show badT tb (nth l k) = false by simpa using hb)
          have HF2 : Aside0 (nth l k = (if k + 1 = 0 then 0 else nth l (k + 1 - 1)) ∧ true = decide (0 < k + 1) ∧ (true = true → k + 1 = k + 1 ∧ fstB l (badT tb) (k + 1) = l.length) ∧ (true = false → fstB l (badT tb) (k + 1) = k + 1 ∧ k + 1 < k + 1)) := ⟨by simp, by simp, fun _ => ⟨rfl, by rw [fstB, if_neg (fun h => hb h.1), hk2]⟩, fun h => (by cases h)⟩
          clear hx ho hk hk2 HF hb
          go_wp2_with (first
            | ((with_reducible refine gate_builtin (b := .append) (xs := #[.tmp 28, .tmp 35]) rfl ?_); at_builtin; go_must (refine Kd.R_append Lk (w0 := w) w.heap.size rfl (.tmp 28) (.tmp 35) 25 42 (.agg #[.int .u64 0, .bool false]) 16 rfl Try.underlying25 infoLk2 rfl (by decide) (by omega) (.slice Ax k cx) (lkB l (badT tb) k) (nth l k, false) (lkEnc (nth l k, false)) (fun _ => True) (fun _ => False) rfl rfl ?hp ?hokp (fun _ _ => trivial) HO.out HB.out HB.out.size (by rw [lkB_length]; omega) ?_; (case hp => rfl); (case hokp => exact fun k hk => hk.elim); intro v1 w1 ho hb hgr hat; obtain ⟨A1, c1, rfl⟩ := Kd.R_slice ho; rw [List.length_append, lkB_length, List.length_singleton] at ho; have HO1 := Aside0.mk ho; clear HB; have HB := Aside0.mk hb; replace hcx := pw_cell_below HB.out HCM.out; clear ho hb hgr hat))
            | (go_at_call 17; refine (bad_any tb (nth l k) _ ht hmm).mono ?_; rintro e w3 ⟨rfl, rfl⟩; rw [HBB.out]))
          go_roundg (gk - 1)
          case measure => omega
          case rel => exact ⟨k + 1, k + 1, nth l k, true, true, A1, c1, by rw [lkB_length], rfl, by first | rfl | simp [HBB.out], by first | rfl | simp [HBB.out], by go_num, by omega, ⟨by have := HF2.out; simpa using this⟩, ⟨by rw [lkB]; (try rw [HBB.out]); exact HO1.out⟩, HB⟩
      | false =>
        obtain ⟨hx, ho, _, hk⟩ := HF.out
        obtain ⟨hk1, hk2⟩ := hk rfl
        have HF2 : Aside0 (x = (if k = 0 then 0 else nth l (k - 1)) ∧ o = decide (0 < k) ∧ (false = true → k = i + 1 ∧ fstB l (badT tb) (i + 1) = l.length) ∧ (false = false → fstB l (badT tb) (i + 1) = k ∧ k < i + 1)) := ⟨hx, ho, fun h => (by cases h), fun _ => ⟨by rw [fstB, if_neg (fun h => by have := h.2; omega), hk1], by omega⟩⟩
        have HBB := Aside0.mk (rfl : (0 : Nat) = 0)
        clear hx ho hk hk1 hk2 HF
        go_wp2_with (first
          | ((with_reducible refine gate_builtin (b := .append) (xs := #[.tmp 28, .tmp 35]) rfl ?_); at_builtin; go_must (refine Kd.R_append Lk (w0 := w) w.heap.size rfl (.tmp 28) (.tmp 35) 25 42 (.agg #[.int .u64 0, .bool false]) 16 rfl Try.underlying25 infoLk2 rfl (by decide) (by omega) (.slice Ax i cx) (lkB l (badT tb) i) (nth l i, badT tb (nth l i)) (lkEnc (nth l i, badT tb (nth l i))) (fun _ => True) (fun _ => False) rfl rfl ?hp ?hokp (fun _ _ => trivial) HO.out HB.out HB.out.size (by rw [lkB_length]; omega) ?_; (case hp => rfl); (case hokp => exact fun k hk => hk.elim); intro v1 w1 ho hb hgr hat; obtain ⟨A1, c1, rfl⟩ := Kd.R_slice ho; rw [List.length_append, lkB_length, List.length_singleton] at ho; have HO1 := Aside0.mk ho; clear HB; have HB := Aside0.mk hb; replace hcx := pw_cell_below HB.out HCM.out; clear ho hb hgr hat))
          | (go_at_call 17; refine (bad_any tb (nth l i) _ ht hmm).mono ?_; rintro e w3 ⟨rfl, rfl⟩))
        go_roundg (gk - 1)
        case measure => omega
        case rel => exact ⟨i + 1, k, x, o, false, A1, c1, by rw [lkB_length], rfl, by first | rfl | simp [HBB.out], by first | rfl | simp [HBB.out], by go_num, by omega, ⟨by have := HF2.out; simpa using this⟩, ⟨by rw [lkB]; (try rw [HBB.out]); exact HO1.out⟩, HB⟩
    · obtain rfl : i = l.length := by omega
      have HE : Aside0 (eachS l (badT tb) = ⟨x, o, lkB l (badT tb) l.length⟩) := ⟨by
        obtain ⟨hx, ho, h1, h2⟩ := HF.out
        have hf : fstB l (badT tb) l.length = k := by
          cases gd with
          | true => rw [(h1 rfl).2, (h1 rfl).1]
          | false => exact (h2 rfl).1
        rw [eachS, if_neg HN.out, hf]
        by_cases hk : k = 0
        · subst hk
          rw [if_pos rfl, hx, ho]; rfl
        · rw [if_neg hk, hx, ho, if_neg hk, decide_eq_true (by omega)]⟩
      clear HF
      go_wp2
      refine bodyPost_ret (v := .tuple #[.int .u64 x, .bool o, .slice Ax l.length cx]) (by simp [results, Try.results18, go_sem]) rfl ?_
      exact ⟨.slice Ax l.length cx, retT3 (by rw [HE.out]) (by rw [HE.out]), by rw [HE.out]; exact HO.out, HB.out⟩
end Go.Proofs.Yteikmlgcmhgaoaa.Search
