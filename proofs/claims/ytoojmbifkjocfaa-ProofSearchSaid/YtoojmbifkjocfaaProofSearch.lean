/- ProofSearch answers true for all moments, every first bad one and every look. No conditions. -/
import Derived.Test.YtoojmbifkjocfaaLast
import Derived.Test.YtoojmbifkjocfaaSearchStand
import Derived.Test.YtoojmbifkjocfaaSame53
import Derived.Test.YtoojmbifkjocfaaPlain53
import Derived.Test.YtoojmbifkjocfaaProofDecode
namespace Go.Proofs.Ytoojmbifkjocfaa.Proof
open Go.RowKit Go.Proofs.YtoojmbifkjocfaaW.PrintWords Go.Proofs.YtoojmbifkjocfaaW.PrintLast Go.Proofs.YtoojmbifkjocfaaW.PrintMore Go.Proofs.Ytoojmbifkjocfaa.Kit Go.Proofs.Ytoojmbifkjocfaa.Plain Go.Proofs.Ytoojmbifkjocfaa.Wire Go.Proofs.Ytoojmbifkjocfaa.Search
set_option linter.unusedVariables false
set_option linter.unusedSimpArgs false
/-- One look's answer turned, in looks of one's own. -/
theorem R_flip {W : World} {base g n cap : Nat} {ok : Nat → Prop} {L : List (Int × Bool)} (h : Kd.R Lk 35 W base ok (.slice (some ⟨g, 0, none⟩) n cap) L) (k : Nat) (hk : k < n) (b' : Bool) :
    Kd.R Lk 35 (W.setCell ⟨g, k * 2 + 1, none⟩ (.bool b')) base ok (.slice (some ⟨g, 0, none⟩) n cap) (L.set k ((L.getD k (0, false)).1, b')) := by
  obtain ⟨c, hcl, hM, hcc, _⟩ := Kd.R_elem h (0, false) (k : Int) (by omega) (by omega)
  have hM' : c = lkEnc (L.getD k (0, false)) := hM
  subst hM'
  exact (Kd.R_seg h (k : Int) (by omega) (by omega) hcl hcc (seg := [.bool b']) (j := 1) (x' := ((L.getD k (0, false)).1, b')) (okp := fun _ => False) (by simp [Lk, flat]) rfl (fun _ hk => hk.elim)).1
theorem R_flip_at {W : World} {base g n cap : Nat} {ok : Nat → Prop} {L : List (Int × Bool)} (h : Kd.R Lk 35 W base ok (.slice (some ⟨g, 0, none⟩) n cap) L) (k : Nat) (hk : k < n) :
    W.cell? ⟨g, k * 2 + 1, none⟩ = some (.bool (L.getD k (0, false)).2) ∧ W.frozen? ⟨g, k * 2 + 1, none⟩ = false := by
  obtain ⟨c, hcl, hM, hcc, hf⟩ := Kd.R_elem h (0, false) (k : Int) (by omega) (by omega)
  have hM' : c = lkEnc (L.getD k (0, false)) := hM
  subst hM'
  exact ⟨hcc 1 _ rfl, hf 1⟩
theorem flip_lies {L : List (Int × Bool)} {bad : Int → Bool} {k : Nat} (h : againB L bad = true) (hk : k < L.length) : againB (L.set k ((L.getD k (0, false)).1, !(L.getD k (0, false)).2)) bad = false := by
  refine decide_eq_false fun hh => ?_
  have h1 := (of_decide_eq_true h) L[k] (List.getElem_mem hk)
  have h2 := hh _ (List.mem_set hk _)
  have e : L.getD k (0, false) = L[k] := by rw [List.getD_eq_getElem?_getD, List.getElem?_eq_getElem hk]; rfl
  rw [e] at h2
  simp only at h2
  rw [← h1] at h2
  cases hb : L[k].2 <;> rw [hb] at h2 <;> simp at h2
theorem flip_mem {L : List (Int × Bool)} {k : Nat} (hk : k < L.length) (h : ∀ p ∈ L, (Lit.int .u64 p.1).wf = true) (b : Bool) : ∀ p ∈ L.set k ((L.getD k (0, false)).1, b), (Lit.int .u64 p.1).wf = true := fun p hp => by
  rcases List.mem_or_eq_of_mem_set hp with hp | rfl
  · exact h p hp
  · have e : L.getD k (0, false) = L[k] := by rw [List.getD_eq_getElem?_getD, List.getElem?_eq_getElem hk]; rfl
    rw [e]
    exact h L[k] (List.getElem_mem hk)
/-- What is known of what halves found. -/
structure Fine (ms : List Int) (n : Int) (m : Int) (ok : Bool) (L : List (Int × Bool)) : Prop where
  st : standB m ok L ms = true
  ag : againB L (badG n) = true
  wm : (Lit.int .u64 m).wf = true
  wl : ∀ p ∈ L, (Lit.int .u64 p.1).wf = true
  len : L.length ≤ 43
  dec : decP (encP m ok L) = ((m, ok, L), 0)
  none : L.length = 0 → ms.length = 0
theorem last_fine {ms : List Int} (n : Int) (hi : Inc ms) (h40 : ms.length ≤ 40) (hms : ∀ x ∈ ms, (Lit.int .u64 x).wf = true) : Fine ms n (lastS ms (badG n)).m (lastS ms (badG n)).ok (lastS ms (badG n)).l := by
  have hb : badG n = badF n := rfl
  have hw : ∀ x ∈ ms, 0 ≤ x ∧ x < 2 ^ 64 := fun x hx => wf_u64 (hms x hx)
  have hm := last_m (badG n) hw
  have hl := last_mem (badG n) hw
  have hs := last_short ms (badG n) h40
  refine { st := ?_, ag := decide_eq_true fun p hp => (tru_last ms (badG n) p hp).2, wm := u64_wf hm.1 hm.2, wl := fun p hp => u64_wf (hl p hp).1 (hl p hp).2, len := hs, dec := dec_encP _ _ _ hm hl (by omega), none := fun h => ?_ }
  · cases hr : riseB ms with
    | true => rw [hb]; exact last_stand n hr
    | false =>
      have := rise_not_nil hr hi
      subst this
      rw [last_nil]
      exact stand_nil
  · cases hr : riseB ms with
    | true => have := last_nonempty (bad := badG n) hr; omega
    | false => rw [rise_not_nil hr hi]; rfl
theorem bytEnc (m : Int) (ok : Bool) (L : List (Int × Bool)) : Byt (encP m ok L) := by
  have hbit : ∀ b : Bool, Byt [bitS b] := fun b x hx => by
    rw [List.mem_singleton] at hx
    subst hx
    exact ⟨(bitS_range b).1, (bitS_range b).2.1⟩
  have happ : ∀ {a b : List Int}, Byt a → Byt b → Byt (a ++ b) := fun ha hb x hx => (List.mem_append.1 hx).elim (ha x) (hb x)
  have hl : Byt (looksS L) := by
    induction L with
    | nil => intro x hx; cases hx
    | cons p L ih => rw [looksS_cons]; exact happ (happ (Byt.put _ _) (hbit _)) ih
  exact happ (hbit _) (happ (Byt.put _ _) (happ (Byt.put _ _) hl))
theorem decodeP_anyN9 (A : Option Addr) (n c : Nat) (b : List Int) (w : World) (hr : RdN w A n b) (hc : n ≤ c) (hy : Byt b) :
    Calls Try.prog 17 #[.slice A n c] w fun x w' => FdR w w' x (decP b).1 (decP b).2 := by
  obtain rfl := C_len hr
  exact decodeP_any A c b w hr hc hy
def tabPs8 : Bool × List (List Nat × List Nat) := (true, [([], []), ([], []), ([0, 1], [0, 1]), ([2], [2]), ([], []), ([], []), ([5], [5]), ([4, 6], [4, 6]), ([7], [7]), ([3, 8], [3, 8])])
theorem tabPs8_ok : rtab .any (opsOf Try.f9 8) = tabPs8 := by kernel_rfl
def tabPs16 : Bool × List (List Nat × List Nat) := (true, [([], []), ([0], [0]), ([1], [1]), ([2], [2]), ([3, 2], [2, 3]), ([2, 4], [2, 4]), ([5, 2], [5]), ([6], [6]), ([7, 6, 6], [6, 7]), ([6], [6]), ([9, 8, 6], [6, 9]), ([8, 10, 10, 6], [6, 8, 10]), ([11, 6], [6, 11]), ([6, 12], [6, 12])])
theorem tabPs16_ok : rtab .any (opsOf Try.f9 16) = tabPs16 := by kernel_rfl
def tabPs21 : Bool × List (List Nat × List Nat) := (true, [([], []), ([0], [0]), ([], []), ([], []), ([3], [3]), ([], []), ([4, 5], [4, 5]), ([6], [6]), ([7], [7]), ([8], [8]), ([1, 2, 0, 1, 2, 3, 4, 5, 6, 7, 8, 9], [1, 2]), ([10, 0, 1, 2, 3, 4, 5, 6, 7, 8, 9], [10]), ([11, 9, 0, 1, 2, 3, 4, 5, 6, 7, 8, 9], [9, 11])])
theorem tabPs21_ok : rtab .any (opsOf Try.f9 21) = tabPs21 := by kernel_rfl
set_option maxHeartbeats 6400000 in
set_option maxRecDepth 100000 in
theorem psearch_any (A : Option Addr) (nn c : Nat) (ms : List Int) (n which : Int) (w : World) (hr : RdM w A nn ms) (hms : ∀ x ∈ ms, (Lit.int .u64 x).wf = true) (hn : (Lit.int .u64 n).wf = true) (hw0 : 0 ≤ which) (hw1 : which < 256) :
    Calls Try.prog 9 #[.slice A nn c, .int .u64 n, .int .u8 which] w fun e w' => e = .returned (.bool true) ∧ Below w.heap.size w w' := by
  obtain rfl := C_len hr
  have hmx := C_max hr
  have HR := Aside0.mk hr
  have HMS := Aside0.mk hms
  clear hr hms
  have hmf : ∀ (fn : Fn) (first cap : Array Value) (w : World), (Instr.makeFunc fn first cap).run Try.prog w = .ok (.func fn first cap) w := fun _ _ _ _ => rfl
  by_cases h1 : 40 < ms.length
  · have g1 : decide (40 < (ms.length : Int)) = true := decide_eq_true (by omega)
    go_enter Try.func9, Try.ntmps9
    go_wp2_with (go_at_call 10; go_must (refine (awake_any _).mono ?_; rintro e w1 ⟨rfl, hb⟩; have HFC := Aside0.mk (show w1.heap[w.heap.size]? = some (.cells #[.int .u64 n] 22 (0, 0)) from (hb.block _ (by simp)).trans (blk_new w _)); have HB1 := Aside0.mk ((below_alloc (Below.refl w.heap.size w) (.cells #[.int .u64 n] 22)).trans (hb.mono (by simp))); replace HR := Aside0.mk (Kd.C_below HR.out HB1.out); clear hb))
    go_ret
    exact ⟨rfl, HB1.out⟩
  have g1 : decide (40 < (ms.length : Int)) = false := decide_eq_false (by omega)
  have H40 := Aside0.mk (show ms.length ≤ 40 by omega)
  clear h1
  go_enter Try.func9, Try.ntmps9
  go_wp2_with (go_at_call 10; go_must (refine (awake_any _).mono ?_; rintro e w1 ⟨rfl, hb⟩; have HFC := Aside0.mk (show w1.heap[w.heap.size]? = some (.cells #[.int .u64 n] 22 (0, 0)) from (hb.block _ (by simp)).trans (blk_new w _)); have HB1 := Aside0.mk ((below_alloc (Below.refl w.heap.size w) (.cells #[.int .u64 n] 22)).trans (hb.mono (by simp))); replace HR := Aside0.mk (Kd.C_below HR.out HB1.out); clear hb))
  go_loopg [7] ms.length (fun gk v w' => ∃ j : Nat, v = .int .i64 ((j : Int) + 1) ∧ (j + gk = ms.length ∨ (j = 0 ∧ gk = 0 ∧ ms.length = 0)) ∧ Aside0 (∀ i, i < j → i + 1 < ms.length → nth ms i < nth ms (i + 1)) ∧ Aside0 (Below w1.heap.size w1 w'))
  case atStart => exact ⟨0, rfl, .inl (by omega), ⟨fun i hi => by omega⟩, ⟨Below.refl _ _⟩⟩
  case round =>
    obtain ⟨j, rfl, hj, HJ, HB⟩ := hrel
    by_cases hlt : j + 1 < ms.length
    · obtain ⟨ad, rfl, hc1⟩ := C_at HR.out j (by omega)
      obtain ⟨ad', he', hc2⟩ := C_at HR.out (j + 1) (by omega)
      injection he' with he'
      subst he'
      have hae : ad.add (j + 1) = ⟨ad.block, ad.off + (j + 1), none⟩ := by unfold Addr.add; split <;> simp_all
      rw [hae] at hc2
      have HC1 := Aside0.mk hc1
      have HC2 := Aside0.mk hc2
      clear hc1 hc2 hae
      have e4 : IntKind.i64.wrap ((j : Int) + 1 - 1) = (j : Int) := by rw [IntWalk.i64_in _ (by omega)]; omega
      have e5 : (j : Int) + 1 - 1 = (j : Int) := by omega
      have e6 : IntKind.i64.wrap (j : Int) = (j : Int) := IntWalk.i64_in _ (by omega)
      have hi0 : 0 ≤ (j : Int) + 1 := by omega
      have hi1 : (j : Int) + 1 < (ms.length : Int) := by omega
      have hi2 : (j : Int) < (ms.length : Int) := by omega
      by_cases hnn : nth ms j < nth ms (j + 1)
      · have f1 : decide (nth ms (j + 1) ≤ nth ms j) = false := decide_eq_false (by omega)
        have HN := Aside0.mk hnn
        clear hnn
        go_wp2_with (fail)
        refine start_ (n := 10) (S := fun w' => w'.cell? (ad.add j) = some (.int .u64 (nth ms j)) ∧ w'.cell? ⟨ad.block, ad.off + (j + 1), none⟩ = some (.int .u64 (nth ms (j + 1)))) (ds := []) #[false, false, false, false, false, false, false, false, false, false] (by kernel_rfl) rfl rfl ⟨pw_cell_below (below_drew HB.out) HC1.out, pw_cell_below (below_drew HB.out) HC2.out⟩ (fun hHeld => ?_); refine with_tab tabPs8_ok (fun HT_ => ?_)
        have hb : Below wr.heap.size wr wr.drew := below_drew (Below.refl _ _)
        replace HB := Aside0.mk (HB.out.trans (hb.mono HB.out.size))
        clear hb
        refine pure_ (i := 0) (N := some 26) (v := ?_) (a' := ?_) #[true, false, false, false, false, false, false, false, false, false] rfl rfl (any_of HT_.out (by kernel_rfl)) (fun _ _ _ h => h) (Or.inl ⟨by rfl, ?_⟩) ?_ ?_
        rotate_left
        · intro w'
          go_simp
          with_reducible rfl
        rotate_left
        · simp only [Act.put, List.setIfInBounds_toArray, List.set_cons_zero, List.set_cons_succ]
          rfl
        refine pure_ (i := 1) (N := some 27) (v := ?_) (a' := ?_) #[true, true, false, false, false, false, false, false, false, false] rfl rfl (any_of HT_.out (by kernel_rfl)) (fun _ _ _ h => h) (Or.inl ⟨by rfl, ?_⟩) ?_ ?_
        rotate_left
        · intro w'
          go_simp
          with_reducible rfl
        rotate_left
        · simp only [Act.put, List.setIfInBounds_toArray, List.set_cons_zero, List.set_cons_succ]
          rfl
        refine pure_ (i := 2) (N := some 28) (v := ?_) (a' := ?_) #[true, true, true, false, false, false, false, false, false, false] rfl rfl (any_of HT_.out (by kernel_rfl)) (fun _ _ _ h => h) (Or.inl ⟨by rfl, ?_⟩) ?_ ?_
        rotate_left
        · intro w'
          go_simp
          with_reducible rfl
        rotate_left
        · simp only [Act.put, List.setIfInBounds_toArray, List.set_cons_zero, List.set_cons_succ]
          rfl
        refine take_ (i := 3) (N := some 29) (v := ?_) (a' := ?_) #[true, true, true, true, false, false, false, false, false, false] rfl rfl (take_of HT_.out (by kernel_rfl)) (fun _ _ _ h => h) (Or.inl ⟨by rfl, ?_⟩) hHeld ?_ ?_
        rotate_left
        · intro w' hw'
          obtain ⟨hw1, hw2⟩ := hw'
          go_simp
          with_reducible rfl
        rotate_left
        · simp only [Act.put, List.setIfInBounds_toArray, List.set_cons_zero, List.set_cons_succ]
          rfl
        refine pure_ (i := 4) (N := some 30) (v := ?_) (a' := ?_) #[true, true, true, true, true, false, false, false, false, false] rfl rfl (any_of HT_.out (by kernel_rfl)) (fun _ _ _ h => h) (Or.inl ⟨by rfl, ?_⟩) ?_ ?_
        rotate_left
        · intro w'
          go_simp
          with_reducible rfl
        rotate_left
        · simp only [Act.put, List.setIfInBounds_toArray, List.set_cons_zero, List.set_cons_succ]
          rfl
        refine pure_ (i := 5) (N := some 31) (v := ?_) (a' := ?_) #[true, true, true, true, true, true, false, false, false, false] rfl rfl (any_of HT_.out (by kernel_rfl)) (fun _ _ _ h => h) (Or.inl ⟨by rfl, ?_⟩) ?_ ?_
        rotate_left
        · intro w'
          go_simp
          with_reducible rfl
        rotate_left
        · simp only [Act.put, List.setIfInBounds_toArray, List.set_cons_zero, List.set_cons_succ]
          rfl
        refine pure_ (i := 6) (N := some 32) (v := ?_) (a' := ?_) #[true, true, true, true, true, true, true, false, false, false] rfl rfl (any_of HT_.out (by kernel_rfl)) (fun _ _ _ h => h) (Or.inl ⟨by rfl, ?_⟩) ?_ ?_
        rotate_left
        · intro w'
          go_simp
          with_reducible rfl
        rotate_left
        · simp only [Act.put, List.setIfInBounds_toArray, List.set_cons_zero, List.set_cons_succ]
          rfl
        refine pure_ (i := 7) (N := some 33) (v := ?_) (a' := ?_) #[true, true, true, true, true, true, true, true, false, false] rfl rfl (any_of HT_.out (by kernel_rfl)) (fun _ _ _ h => h) (Or.inl ⟨by rfl, ?_⟩) ?_ ?_
        rotate_left
        · intro w'
          go_simp
          with_reducible rfl
        rotate_left
        · simp only [Act.put, List.setIfInBounds_toArray, List.set_cons_zero, List.set_cons_succ]
          rfl
        refine take_ (i := 8) (N := some 34) (v := ?_) (a' := ?_) #[true, true, true, true, true, true, true, true, true, false] rfl rfl (take_of HT_.out (by kernel_rfl)) (fun _ _ _ h => h) (Or.inl ⟨by rfl, ?_⟩) hHeld ?_ ?_
        rotate_left
        · intro w' hw'
          obtain ⟨hw1, hw2⟩ := hw'
          go_simp
          with_reducible rfl
        rotate_left
        · simp only [Act.put, List.setIfInBounds_toArray, List.set_cons_zero, List.set_cons_succ]
          rfl
        refine pure_ (i := 9) (N := some 35) (v := ?_) (a' := ?_) #[true, true, true, true, true, true, true, true, true, true] rfl rfl (any_of HT_.out (by kernel_rfl)) (fun _ _ _ h => h) (Or.inl ⟨by rfl, ?_⟩) ?_ ?_
        rotate_left
        · intro w'
          go_simp
          with_reducible rfl
        rotate_left
        · simp only [Act.put, List.setIfInBounds_toArray, List.set_cons_zero, List.set_cons_succ]
          rfl
        refine done_ (done_of HT_.out (by kernel_rfl)) ?_
        clear HT_ hHeld e4 e5 e6 hi0 hi1 hi2
        go_wp2
        go_roundg (gk - 1)
        case measure => omega
        case rel => exact ⟨j + 1, by go_num, .inl (by omega), ⟨fun i hi hi2 => by
            rcases Nat.lt_or_ge i j with h | h
            · exact HJ.out i h hi2
            · obtain rfl : i = j := by omega
              exact HN.out⟩, HB⟩
      · have f1 : decide (nth ms (j + 1) ≤ nth ms j) = true := decide_eq_true (by omega)
        clear hnn
        go_wp2_with (fail)
        refine start_ (n := 10) (S := fun w' => w'.cell? (ad.add j) = some (.int .u64 (nth ms j)) ∧ w'.cell? ⟨ad.block, ad.off + (j + 1), none⟩ = some (.int .u64 (nth ms (j + 1)))) (ds := []) #[false, false, false, false, false, false, false, false, false, false] (by kernel_rfl) rfl rfl ⟨pw_cell_below (below_drew HB.out) HC1.out, pw_cell_below (below_drew HB.out) HC2.out⟩ (fun hHeld => ?_); refine with_tab tabPs8_ok (fun HT_ => ?_)
        have hb : Below wr.heap.size wr wr.drew := below_drew (Below.refl _ _)
        replace HB := Aside0.mk (HB.out.trans (hb.mono HB.out.size))
        clear hb
        refine pure_ (i := 0) (N := some 26) (v := ?_) (a' := ?_) #[true, false, false, false, false, false, false, false, false, false] rfl rfl (any_of HT_.out (by kernel_rfl)) (fun _ _ _ h => h) (Or.inl ⟨by rfl, ?_⟩) ?_ ?_
        rotate_left
        · intro w'
          go_simp
          with_reducible rfl
        rotate_left
        · simp only [Act.put, List.setIfInBounds_toArray, List.set_cons_zero, List.set_cons_succ]
          rfl
        refine pure_ (i := 1) (N := some 27) (v := ?_) (a' := ?_) #[true, true, false, false, false, false, false, false, false, false] rfl rfl (any_of HT_.out (by kernel_rfl)) (fun _ _ _ h => h) (Or.inl ⟨by rfl, ?_⟩) ?_ ?_
        rotate_left
        · intro w'
          go_simp
          with_reducible rfl
        rotate_left
        · simp only [Act.put, List.setIfInBounds_toArray, List.set_cons_zero, List.set_cons_succ]
          rfl
        refine pure_ (i := 2) (N := some 28) (v := ?_) (a' := ?_) #[true, true, true, false, false, false, false, false, false, false] rfl rfl (any_of HT_.out (by kernel_rfl)) (fun _ _ _ h => h) (Or.inl ⟨by rfl, ?_⟩) ?_ ?_
        rotate_left
        · intro w'
          go_simp
          with_reducible rfl
        rotate_left
        · simp only [Act.put, List.setIfInBounds_toArray, List.set_cons_zero, List.set_cons_succ]
          rfl
        refine take_ (i := 3) (N := some 29) (v := ?_) (a' := ?_) #[true, true, true, true, false, false, false, false, false, false] rfl rfl (take_of HT_.out (by kernel_rfl)) (fun _ _ _ h => h) (Or.inl ⟨by rfl, ?_⟩) hHeld ?_ ?_
        rotate_left
        · intro w' hw'
          obtain ⟨hw1, hw2⟩ := hw'
          go_simp
          with_reducible rfl
        rotate_left
        · simp only [Act.put, List.setIfInBounds_toArray, List.set_cons_zero, List.set_cons_succ]
          rfl
        refine pure_ (i := 4) (N := some 30) (v := ?_) (a' := ?_) #[true, true, true, true, true, false, false, false, false, false] rfl rfl (any_of HT_.out (by kernel_rfl)) (fun _ _ _ h => h) (Or.inl ⟨by rfl, ?_⟩) ?_ ?_
        rotate_left
        · intro w'
          go_simp
          with_reducible rfl
        rotate_left
        · simp only [Act.put, List.setIfInBounds_toArray, List.set_cons_zero, List.set_cons_succ]
          rfl
        refine pure_ (i := 5) (N := some 31) (v := ?_) (a' := ?_) #[true, true, true, true, true, true, false, false, false, false] rfl rfl (any_of HT_.out (by kernel_rfl)) (fun _ _ _ h => h) (Or.inl ⟨by rfl, ?_⟩) ?_ ?_
        rotate_left
        · intro w'
          go_simp
          with_reducible rfl
        rotate_left
        · simp only [Act.put, List.setIfInBounds_toArray, List.set_cons_zero, List.set_cons_succ]
          rfl
        refine pure_ (i := 6) (N := some 32) (v := ?_) (a' := ?_) #[true, true, true, true, true, true, true, false, false, false] rfl rfl (any_of HT_.out (by kernel_rfl)) (fun _ _ _ h => h) (Or.inl ⟨by rfl, ?_⟩) ?_ ?_
        rotate_left
        · intro w'
          go_simp
          with_reducible rfl
        rotate_left
        · simp only [Act.put, List.setIfInBounds_toArray, List.set_cons_zero, List.set_cons_succ]
          rfl
        refine pure_ (i := 7) (N := some 33) (v := ?_) (a' := ?_) #[true, true, true, true, true, true, true, true, false, false] rfl rfl (any_of HT_.out (by kernel_rfl)) (fun _ _ _ h => h) (Or.inl ⟨by rfl, ?_⟩) ?_ ?_
        rotate_left
        · intro w'
          go_simp
          with_reducible rfl
        rotate_left
        · simp only [Act.put, List.setIfInBounds_toArray, List.set_cons_zero, List.set_cons_succ]
          rfl
        refine take_ (i := 8) (N := some 34) (v := ?_) (a' := ?_) #[true, true, true, true, true, true, true, true, true, false] rfl rfl (take_of HT_.out (by kernel_rfl)) (fun _ _ _ h => h) (Or.inl ⟨by rfl, ?_⟩) hHeld ?_ ?_
        rotate_left
        · intro w' hw'
          obtain ⟨hw1, hw2⟩ := hw'
          go_simp
          with_reducible rfl
        rotate_left
        · simp only [Act.put, List.setIfInBounds_toArray, List.set_cons_zero, List.set_cons_succ]
          rfl
        refine pure_ (i := 9) (N := some 35) (v := ?_) (a' := ?_) #[true, true, true, true, true, true, true, true, true, true] rfl rfl (any_of HT_.out (by kernel_rfl)) (fun _ _ _ h => h) (Or.inl ⟨by rfl, ?_⟩) ?_ ?_
        rotate_left
        · intro w'
          go_simp
          with_reducible rfl
        rotate_left
        · simp only [Act.put, List.setIfInBounds_toArray, List.set_cons_zero, List.set_cons_succ]
          rfl
        refine done_ (done_of HT_.out (by kernel_rfl)) ?_
        clear HT_ hHeld e4 e5 e6 hi0 hi1 hi2
        go_wp2
        go_ret
        exact ⟨rfl, HB1.out.trans (HB.out.mono HB1.out.size)⟩
    · have HF := Aside0.mk (last_fine n (ms := ms) (fun i hi => HJ.out i (by omega) (by omega)) H40.out HMS.out)
      clear HJ
      go_upto_region 12 with (go_at_call 21; go_must (refine (last_st c (Kd.C_below HR.out HB.out) (fun x hx => (wf_u64 (HMS.out x hx)).1) (by have := H40.out; omega) (asks_search (Kd.C_below HR.out HB.out) (blk_cell ((HB.out.block _ (blk_lt HFC.out)).trans HFC.out) 0))).mono ?_; rintro e y2 ⟨A8, c8, rfl, hL, hb⟩; have HL4 := Aside0.mk hL; replace HB := Aside0.mk (HB.out.trans (hb.mono HB.out.size)); clear hb hL))
      obtain ⟨F, hF⟩ : ∃ F, F = lastS ms (badG n) := ⟨_, rfl⟩
      rw [← hF] at HF HL4 ⊢
      clear hF
      obtain ⟨m, ok, L⟩ := F
      simp only at HF HL4 ⊢
      obtain ⟨w5, hw5⟩ : ∃ w5, w5 = y2.alloc (.cells #[.int .u64 m, .bool ok, .slice A8 L.length c8] 25) := ⟨_, rfl⟩
      rw [← hw5]
      have hb : Below y2.heap.size y2 w5 := by rw [hw5]; exact below_alloc (Below.refl _ _) _
      have hx : w5.heap[y2.heap.size]? = some (foundObj m ok (.slice A8 L.length c8)) := by rw [hw5]; exact blk_new _ _
      replace HL4 := Aside0.mk (Kd.C_below HL4.out hb)
      replace HB := Aside0.mk (HB.out.trans (hb.mono HB.out.size))
      obtain ⟨p9, hp9⟩ : ∃ p, p = y2.heap.size := ⟨_, rfl⟩
      rw [← hp9] at hx ⊢
      clear hw5 hb hp9
      obtain ⟨x0, x1, x2⟩ := found_cells hx
      have HX0 := Aside0.mk x0
      have HX1 := Aside0.mk x1
      have HX2 := Aside0.mk x2
      clear hx
      replace HR := Aside0.mk (Kd.C_below HR.out HB.out)
      replace HFC := Aside0.mk ((HB.out.block _ (blk_lt HFC.out)).trans HFC.out)
      replace HB1 := Aside0.mk (HB1.out.trans (HB.out.mono HB1.out.size))
      clear HB
      have HB := Aside0.mk (Below.refl w5.heap.size w5)
      go_upto_region 16 with (first
    | (go_at_call 11; go_must (refine (check_any m ok A8 L.length c8 L A ms.length c ms _ (Kd.C_below HL4.out HB.out) (Kd.C_below HR.out HB.out) HF.out.wm HF.out.wl HMS.out).mono ?_; rintro e y4 ⟨rfl, hb⟩; rw [HF.out.st]; replace HB := Aside0.mk (HB.out.trans (hb.mono HB.out.size)); clear hb; (try clear x0 x1 x2); have x0 := pw_cell_below HB.out HX0.out; have x1 := pw_cell_below HB.out HX1.out; have x2 := pw_cell_below HB.out HX2.out))
    | (go_at_call 15; go_must (refine (again_search m ok A8 L.length c8 L _ n (w.heap.size) (Kd.C_below HL4.out HB.out) HF.out.wl (blk_cell ((HB.out.block _ (blk_lt HFC.out)).trans HFC.out) 0)).mono ?_; rintro e y5 ⟨rfl, hb⟩; rw [HF.out.ag]; replace HB := Aside0.mk (HB.out.trans (hb.mono HB.out.size)); clear hb; (try clear x0 x1 x2); have x0 := pw_cell_below HB.out HX0.out; have x1 := pw_cell_below HB.out HX1.out; have x2 := pw_cell_below HB.out HX2.out))
    | (go_at_call 18; go_must (refine (encodeP_any m ok A8 L.length c8 L _ (Kd.C_below HL4.out HB.out) (by have := HF.out.len; omega)).mono ?_; rintro e y6 ⟨⟨v5, rfl, ho⟩, hb⟩; obtain ⟨A5, k5, rfl, hk5, hr5⟩ := Ow_slice ho; obtain ⟨n5, hn5⟩ : ∃ k, k = (encP m ok L).length := ⟨_, rfl⟩; rw [← hn5] at hk5 ⊢; have HR5 := Aside0.mk (show RdN y6 A5 n5 (encP m ok L) by rw [hn5]; exact hr5); have HK5 := Aside0.mk hk5; clear ho hr5 hk5 hn5; replace HB := Aside0.mk (HB.out.trans (hb.mono HB.out.size)); clear hb; (try clear x0 x1 x2); have x0 := pw_cell_below HB.out HX0.out; have x1 := pw_cell_below HB.out HX1.out; have x2 := pw_cell_below HB.out HX2.out))
    | (go_at_call 17; go_must (refine (decodeP_anyN9 A5 n5 k5 (encP m ok L) _ HR5.out HK5.out (bytEnc m ok L)).mono ?_; rintro e y7 hd; rw [HF.out.dec] at hd; obtain ⟨⟨v7, rfl, hl⟩, hb⟩ := hd; simp only at hl ⊢; obtain ⟨A9, c9, rfl⟩ := Kd.R_slice hl; have HO := Aside0.mk hl; have HBY := Aside0.mk (show w.heap.size ≤ y6.heap.size from Nat.le_trans HB1.out.size HB.out.size); clear hl; replace HB := Aside0.mk (HB.out.trans (hb.mono HB.out.size)); clear hb; (try clear x0 x1 x2); have x0 := pw_cell_below HB.out HX0.out; have x1 := pw_cell_below HB.out HX1.out; have x2 := pw_cell_below HB.out HX2.out)))
      obtain ⟨w6, hw6⟩ : ∃ w6, w6 = y7.alloc (.cells #[.int .u64 m, .bool ok, .slice A9 L.length c9] 25) := ⟨_, rfl⟩
      rw [← hw6]
      have hb : Below y7.heap.size y7 w6 := by rw [hw6]; exact below_alloc (Below.refl _ _) _
      have hx : w6.heap[y7.heap.size]? = some (foundObj m ok (.slice A9 L.length c9)) := by rw [hw6]; exact blk_new _ _
      replace HO := Aside0.mk (Kd.R_below HO.out hb)
      replace HB := Aside0.mk (HB.out.trans (hb.mono HB.out.size))
      obtain ⟨p12, hp12⟩ : ∃ p, p = y7.heap.size := ⟨_, rfl⟩
      rw [← hp12] at hx ⊢
      clear hw6 hb hp12 x0 x1 x2
      have HG := Aside0.mk hx
      clear hx
      replace HX0 := Aside0.mk (pw_cell_below HB.out HX0.out)
      replace HX1 := Aside0.mk (pw_cell_below HB.out HX1.out)
      replace HX2 := Aside0.mk (pw_cell_below HB.out HX2.out)
      replace HL4 := Aside0.mk (Kd.C_below HL4.out HB.out)
      replace HR := Aside0.mk (Kd.C_below HR.out HB.out)
      replace HFC := Aside0.mk ((HB.out.block _ (blk_lt HFC.out)).trans HFC.out)
      replace HB1 := Aside0.mk (HB1.out.trans (HB.out.mono HB1.out.size))
      clear HB HR5 HK5
      have HB := Aside0.mk (Below.refl w6.heap.size w6)
      refine start_ (n := 14) (S := fun w' => w'.cell? ⟨p9, 0, none⟩ = some (.int .u64 m) ∧ w'.cell? ⟨p9, 1, none⟩ = some (.bool ok) ∧ w'.cell? ⟨p9, 2, none⟩ = some (.slice A8 L.length c8) ∧ w'.cell? ⟨p12, 0, none⟩ = some (.int .u64 m) ∧ w'.cell? ⟨p12, 1, none⟩ = some (.bool ok) ∧ w'.cell? ⟨p12, 2, none⟩ = some (.slice A9 L.length c9)) (ds := []) #[false, false, false, false, false, false, false, false, false, false, false, false, false, false] (by kernel_rfl) rfl rfl ⟨pw_cell_below (below_drew HB.out) HX0.out, pw_cell_below (below_drew HB.out) HX1.out, pw_cell_below (below_drew HB.out) HX2.out, pw_cell_below (below_drew HB.out) (blk_cell HG.out 0), pw_cell_below (below_drew HB.out) (blk_cell HG.out 1), pw_cell_below (below_drew HB.out) (blk_cell HG.out 2)⟩ (fun hHeld => ?_); refine with_tab tabPs16_ok (fun HT_ => ?_)
      have hb : Below w6.heap.size w6 w6.drew := below_drew (Below.refl _ _)
      replace HB := Aside0.mk (HB.out.trans (hb.mono HB.out.size))
      clear hb
      refine pure_ (i := 0) (N := some 60) (v := ?_) (a' := ?_) #[true, false, false, false, false, false, false, false, false, false, false, false, false, false] rfl rfl (any_of HT_.out (by kernel_rfl)) (fun _ _ _ h => h) (Or.inl ⟨by rfl, ?_⟩) ?_ ?_
      rotate_left
      · intro w'
        go_simp
        with_reducible rfl
      rotate_left
      · simp only [Act.put, List.setIfInBounds_toArray, List.set_cons_zero, List.set_cons_succ]
        rfl
      refine pure_ (i := 1) (N := some 61) (v := ?_) (a' := ?_) #[true, true, false, false, false, false, false, false, false, false, false, false, false, false] rfl rfl (any_of HT_.out (by kernel_rfl)) (fun _ _ _ h => h) (Or.inl ⟨by rfl, ?_⟩) ?_ ?_
      rotate_left
      · intro w'
        go_simp
        with_reducible rfl
      rotate_left
      · simp only [Act.put, List.setIfInBounds_toArray, List.set_cons_zero, List.set_cons_succ]
        rfl
      refine pure_ (i := 2) (N := some 62) (v := ?_) (a' := ?_) #[true, true, true, false, false, false, false, false, false, false, false, false, false, false] rfl rfl (any_of HT_.out (by kernel_rfl)) (fun _ _ _ h => h) (Or.inl ⟨by rfl, ?_⟩) ?_ ?_
      rotate_left
      · intro w'
        go_simp
        with_reducible rfl
      rotate_left
      · simp only [Act.put, List.setIfInBounds_toArray, List.set_cons_zero, List.set_cons_succ]
        rfl
      refine pure_ (i := 3) (N := some 63) (v := ?_) (a' := ?_) #[true, true, true, true, false, false, false, false, false, false, false, false, false, false] rfl rfl (any_of HT_.out (by kernel_rfl)) (fun _ _ _ h => h) (Or.inl ⟨by rfl, ?_⟩) ?_ ?_
      rotate_left
      · intro w'
        go_simp
        with_reducible rfl
      rotate_left
      · simp only [Act.put, List.setIfInBounds_toArray, List.set_cons_zero, List.set_cons_succ]
        rfl
      refine pure_ (i := 4) (N := some 64) (v := ?_) (a' := ?_) #[true, true, true, true, true, false, false, false, false, false, false, false, false, false] rfl rfl (any_of HT_.out (by kernel_rfl)) (fun _ _ _ h => h) (Or.inl ⟨by rfl, ?_⟩) ?_ ?_
      rotate_left
      · intro w'
        go_simp
        with_reducible rfl
      rotate_left
      · simp only [Act.put, List.setIfInBounds_toArray, List.set_cons_zero, List.set_cons_succ]
        rfl
      refine pure_ (i := 5) (N := some 65) (v := ?_) (a' := ?_) #[true, true, true, true, true, true, false, false, false, false, false, false, false, false] rfl rfl (any_of HT_.out (by kernel_rfl)) (fun _ _ _ h => h) (Or.inl ⟨by rfl, ?_⟩) ?_ ?_
      rotate_left
      · intro w'
        go_simp
        with_reducible rfl
      rotate_left
      · simp only [Act.put, List.setIfInBounds_toArray, List.set_cons_zero, List.set_cons_succ]
        rfl
      refine pure_ (i := 6) (N := some 66) (v := ?_) (a' := ?_) #[true, true, true, true, true, true, true, false, false, false, false, false, false, false] rfl rfl (any_of HT_.out (by kernel_rfl)) (fun _ _ _ h => h) (Or.inl ⟨by rfl, ?_⟩) ?_ ?_
      rotate_left
      · intro w'
        go_simp
        with_reducible rfl
      rotate_left
      · simp only [Act.put, List.setIfInBounds_toArray, List.set_cons_zero, List.set_cons_succ]
        rfl
      refine take_ (i := 7) (N := some 67) (v := ?_) (a' := ?_) #[true, true, true, true, true, true, true, true, false, false, false, false, false, false] rfl rfl (take_of HT_.out (by kernel_rfl)) (fun _ _ _ h => h) (Or.inl ⟨by rfl, ?_⟩) hHeld ?_ ?_
      rotate_left
      · intro w' hw'
        obtain ⟨s0, s1, s2, s3, s4, s5⟩ := hw'
        go_simp
        with_reducible rfl
      rotate_left
      · simp only [Act.put, List.setIfInBounds_toArray, List.set_cons_zero, List.set_cons_succ]
        rfl
      refine take_ (i := 9) (N := some 69) (v := ?_) (a' := ?_) #[true, true, true, true, true, true, true, true, false, true, false, false, false, false] rfl rfl (take_of HT_.out (by kernel_rfl)) (fun _ _ _ h => h) (Or.inl ⟨by rfl, ?_⟩) hHeld ?_ ?_
      rotate_left
      · intro w' hw'
        obtain ⟨s0, s1, s2, s3, s4, s5⟩ := hw'
        go_simp
        with_reducible rfl
      rotate_left
      · simp only [Act.put, List.setIfInBounds_toArray, List.set_cons_zero, List.set_cons_succ]
        rfl
      refine one_ (i := 8) (N := some 68) #[true, true, true, true, true, true, true, true, true, true, false, false, false, false] rfl rfl (one_of HT_.out (by kernel_rfl)) (by decide) (fun Kq_ hK_ => ?_)
      refine goes_ Try.func13 (by kernel_rfl) rfl #[.agg #[.int .u64 m, .bool ok, .slice A8 L.length c8]] (by rfl) rfl rfl (by (try simp only [List.map_toArray, List.map_cons, List.map_nil]); first | done | rfl) ?_
      with_reducible refine (plain_any m ok A8 L.length c8 L _ (Kd.C_below HL4.out HB.out) (by have := HF.out.len; omega)).mono ?_
      rintro e w' ⟨Apa, cpa, rfl, hp, hb⟩
      refine ⟨_, rfl, ?_⟩
      have HPa := Aside0.mk hp
      replace HB := Aside0.mk (HB.out.trans (hb.mono HB.out.size))
      clear hb hp
      refine hK_.out _ _ ⟨pw_cell_below HB.out HX0.out, pw_cell_below HB.out HX1.out, pw_cell_below HB.out HX2.out, pw_cell_below HB.out (blk_cell HG.out 0), pw_cell_below HB.out (blk_cell HG.out 1), pw_cell_below HB.out (blk_cell HG.out 2)⟩ (fun hHeld => ?_)
      clear hK_ Kq_
      refine norm_ (a' := ?_) ?_ ?_
      rotate_left
      · show Act.put _ (some 68) _ = _
        simp only [Act.put, List.setIfInBounds_toArray, List.set_cons_zero, List.set_cons_succ]
        rfl
      refine one_ (i := 10) (N := some 70) #[true, true, true, true, true, true, true, true, true, true, true, false, false, false] rfl rfl (one_of HT_.out (by kernel_rfl)) (by decide) (fun Kq_ hK_ => ?_)
      refine goes_ Try.func13 (by kernel_rfl) rfl #[.agg #[.int .u64 m, .bool ok, .slice A9 L.length c9]] (by rfl) rfl rfl (by (try simp only [List.map_toArray, List.map_cons, List.map_nil]); first | done | rfl) ?_
      with_reducible refine (plain_any m ok A9 L.length c9 L _ (Kd.C_below (Kd.R_reads' HO.out).2.2 HB.out) (by have := HF.out.len; omega)).mono ?_
      rintro e w' ⟨Apb, cpb, rfl, hp, hb⟩
      refine ⟨_, rfl, ?_⟩
      replace HPa := Aside0.mk (Kd.C_below HPa.out hb)
      have HPb := Aside0.mk hp
      replace HB := Aside0.mk (HB.out.trans (hb.mono HB.out.size))
      clear hb hp
      refine hK_.out _ _ ⟨pw_cell_below HB.out HX0.out, pw_cell_below HB.out HX1.out, pw_cell_below HB.out HX2.out, pw_cell_below HB.out (blk_cell HG.out 0), pw_cell_below HB.out (blk_cell HG.out 1), pw_cell_below HB.out (blk_cell HG.out 2)⟩ (fun hHeld => ?_)
      clear hK_ Kq_
      refine norm_ (a' := ?_) ?_ ?_
      rotate_left
      · show Act.put _ (some 70) _ = _
        simp only [Act.put, List.setIfInBounds_toArray, List.set_cons_zero, List.set_cons_succ]
        rfl
      refine one_ (i := 11) (N := some 71) #[true, true, true, true, true, true, true, true, true, true, true, true, false, false] rfl rfl (one_of HT_.out (by kernel_rfl)) (by decide) (fun Kq_ hK_ => ?_)
      refine goes_ Try.func22 (by kernel_rfl) rfl #[.agg #[.int .u64 m, .bool ok, .slice Apa L.length cpa], .agg #[.int .u64 m, .bool ok, .slice Apb L.length cpb]] (by rfl) rfl rfl (by (try simp only [List.map_toArray, List.map_cons, List.map_nil]); first | done | rfl) ?_
      with_reducible refine (same53_any m ok Apa Apb L.length L.length cpa cpb L _ HPa.out HPb.out).mono ?_
      rintro e w16 ⟨rfl, hb⟩
      refine ⟨_, rfl, ?_⟩
      replace HB := Aside0.mk (HB.out.trans (hb.mono HB.out.size))
      clear hb HPa HPb
      refine hK_.out _ _ ⟨pw_cell_below HB.out HX0.out, pw_cell_below HB.out HX1.out, pw_cell_below HB.out HX2.out, pw_cell_below HB.out (blk_cell HG.out 0), pw_cell_below HB.out (blk_cell HG.out 1), pw_cell_below HB.out (blk_cell HG.out 2)⟩ (fun hHeld => ?_)
      clear hK_ Kq_
      refine norm_ (a' := ?_) ?_ ?_
      rotate_left
      · show Act.put _ (some 71) _ = _
        simp only [Act.put, List.setIfInBounds_toArray, List.set_cons_zero, List.set_cons_succ]
        rfl
      refine pure_ (i := 12) (N := some 72) (v := ?_) (a' := ?_) #[true, true, true, true, true, true, true, true, true, true, true, true, true, false] rfl rfl (any_of HT_.out (by kernel_rfl)) (fun _ _ _ h => h) (Or.inl ⟨by rfl, ?_⟩) ?_ ?_
      rotate_left
      · intro w'
        go_simp
        with_reducible rfl
      rotate_left
      · simp only [Act.put, List.setIfInBounds_toArray, List.set_cons_zero, List.set_cons_succ]
        rfl
      refine pure_ (i := 13) (N := some 73) (v := ?_) (a' := ?_) #[true, true, true, true, true, true, true, true, true, true, true, true, true, true] rfl rfl (any_of HT_.out (by kernel_rfl)) (fun _ _ _ h => h) (Or.inl ⟨by rfl, ?_⟩) ?_ ?_
      rotate_left
      · intro w'
        go_simp
        with_reducible rfl
      rotate_left
      · simp only [Act.put, List.setIfInBounds_toArray, List.set_cons_zero, List.set_cons_succ]
        rfl
      refine done_ (done_of HT_.out (by kernel_rfl)) ?_
      clear HT_ hHeld
      replace HO := Aside0.mk (Kd.R_below HO.out HB.out)
      replace HG := Aside0.mk ((HB.out.block _ (blk_lt HG.out)).trans HG.out)
      replace HFC := Aside0.mk ((HB.out.block _ (blk_lt HFC.out)).trans HFC.out)
      replace HB1 := Aside0.mk (HB1.out.trans (HB.out.mono HB1.out.size))
      clear HB HX0 HX1 HX2 HL4 HR
      obtain ⟨x0, x1, x2⟩ := found_cells HG.out
      by_cases hL0 : L.length = 0
      · have hms0 := HF.out.none hL0
        have q1 : ((ms.length : Int) == 0) = true := by rw [hms0]; rfl
        have q2 : ((L.length : Int) == 0) = true := by rw [hL0]; rfl
        have q3 : (ms.length == 0) = true := by rw [hms0]; rfl
        have q4 : (L.length == 0) = true := by rw [hL0]; rfl
        clear hL0 hms0
        go_wp2
        go_ret
        exact ⟨rfl, HB1.out⟩
      have hLp : 0 < L.length := by omega
      have q2 : ((L.length : Int) == 0) = false := beq_eq_false_iff_ne.2 (by omega)
      have q4 : (L.length == 0) = false := beq_eq_false_iff_ne.2 hL0
      obtain ⟨k, hk⟩ : ∃ k : Nat, k = which.toNat % L.length := ⟨_, rfl⟩
      have hkl : k < L.length := by rw [hk]; exact Nat.mod_lt _ hLp
      have er1 : which.tmod (L.length : Int) = (k : Int) := by
        rw [Int.tmod_eq_emod_of_nonneg hw0, hk, Int.natCast_emod]
        congr 1
        omega
      have er2 : IntKind.i64.wrap which = which := IntWalk.i64_in _ (by omega)
      have er3 : IntKind.i64.wrap (k : Int) = (k : Int) := IntWalk.i64_in _ (by have := HF.out.len; omega)
      have hz : (L.length : Int) ≠ 0 := by omega
      have hki0 : (0 : Int) ≤ (k : Int) := by omega
      have hki1 : (k : Int) < (L.length : Int) := by omega
      obtain ⟨ad, rfl, _⟩ := (Kd.R_reads' HO.out).2.2.2.2 hLp
      obtain ⟨g, hg⟩ := Kd.R_head HO.out
      have hga : (⟨(ad.add (k * 2)).block, (ad.add (k * 2)).off + 1, none⟩ : Addr) = ⟨g, k * 2 + 1, none⟩ := by rw [hg, ← add_next, add_plain]
      have HGA := Aside0.mk hga
      have HAD := Aside0.mk hg
      have HKL := Aside0.mk hkl
      obtain ⟨bk, hbk⟩ : ∃ b, b = (L.getD k (0, false)).2 := ⟨_, rfl⟩
      have HBK := Aside0.mk hbk
      have hat := R_flip_at (by have := HO.out; rwa [hg] at this) k hkl
      rw [← hga, ← hbk] at hat
      have HAT := Aside0.mk hat.1
      have z9 := hat.2
      clear hk hkl hL0 hLp hg hga hbk hat
      go_upto_region 21 with (fail)
      have HB := Aside0.mk (Below.refl w16.heap.size w16)
      refine start_ (n := 13) (S := fun w' => w'.cell? ⟨p12, 2, none⟩ = some (.slice (some ad) L.length c9) ∧ w'.cell? ⟨(ad.add (k * 2)).block, (ad.add (k * 2)).off + 1, none⟩ = some (.bool bk)) (ds := [12]) #[false, false, false, false, false, false, false, false, false, false, false, false, false] (by kernel_rfl) rfl rfl ⟨pw_cell_below (below_drew (Below.refl _ _)) (blk_cell HG.out 2), pw_cell_below (below_drew (Below.refl _ _)) HAT.out⟩ (fun hHeld => ?_); refine with_tab tabPs21_ok (fun HT_ => ?_)
      have hb : Below w16.heap.size w16 w16.drew := below_drew (Below.refl _ _)
      replace HB := Aside0.mk (HB.out.trans (hb.mono HB.out.size))
      clear hb
      have c9' := HAT.out
      refine pure_ (i := 0) (N := some 87) (v := ?_) (a' := ?_) #[true, false, false, false, false, false, false, false, false, false, false, false, false] rfl rfl (any_of HT_.out (by kernel_rfl)) (fun _ _ _ h => h) (Or.inl ⟨by rfl, ?_⟩) ?_ ?_
      rotate_left
      · intro w'
        go_simp
        with_reducible rfl
      rotate_left
      · simp only [Act.put, List.setIfInBounds_toArray, List.set_cons_zero, List.set_cons_succ]
        rfl
      refine take_ (i := 1) (N := some 88) (v := ?_) (a' := ?_) #[true, true, false, false, false, false, false, false, false, false, false, false, false] rfl rfl (take_of HT_.out (by kernel_rfl)) (fun _ _ _ h => h) (Or.inl ⟨by rfl, ?_⟩) hHeld ?_ ?_
      rotate_left
      · intro w' hw'
        obtain ⟨s0, s1⟩ := hw'
        go_simp
        with_reducible rfl
      rotate_left
      · simp only [Act.put, List.setIfInBounds_toArray, List.set_cons_zero, List.set_cons_succ]
        rfl
      refine pure_ (i := 2) (N := some 89) (v := ?_) (a' := ?_) #[true, true, true, false, false, false, false, false, false, false, false, false, false] rfl rfl (any_of HT_.out (by kernel_rfl)) (fun _ _ _ h => h) (Or.inl ⟨by rfl, ?_⟩) ?_ ?_
      rotate_left
      · intro w'
        go_simp
        with_reducible rfl
      rotate_left
      · simp only [Act.put, List.setIfInBounds_toArray, List.set_cons_zero, List.set_cons_succ]
        rfl
      refine pure_ (i := 3) (N := some 90) (v := ?_) (a' := ?_) #[true, true, true, true, false, false, false, false, false, false, false, false, false] rfl rfl (any_of HT_.out (by kernel_rfl)) (fun _ _ _ h => h) (Or.inl ⟨by rfl, ?_⟩) ?_ ?_
      rotate_left
      · intro w'
        go_simp
        with_reducible rfl
      rotate_left
      · simp only [Act.put, List.setIfInBounds_toArray, List.set_cons_zero, List.set_cons_succ]
        rfl
      refine take_ (i := 4) (N := some 91) (v := ?_) (a' := ?_) #[true, true, true, true, true, false, false, false, false, false, false, false, false] rfl rfl (take_of HT_.out (by kernel_rfl)) (fun _ _ _ h => h) (Or.inl ⟨by rfl, ?_⟩) hHeld ?_ ?_
      rotate_left
      · intro w' hw'
        obtain ⟨s0, s1⟩ := hw'
        go_simp
        with_reducible rfl
      rotate_left
      · simp only [Act.put, List.setIfInBounds_toArray, List.set_cons_zero, List.set_cons_succ]
        rfl
      refine pure_ (i := 5) (N := some 92) (v := ?_) (a' := ?_) #[true, true, true, true, true, true, false, false, false, false, false, false, false] rfl rfl (any_of HT_.out (by kernel_rfl)) (fun _ _ _ h => h) (Or.inl ⟨by rfl, ?_⟩) ?_ ?_
      rotate_left
      · intro w'
        go_simp
        with_reducible rfl
      rotate_left
      · simp only [Act.put, List.setIfInBounds_toArray, List.set_cons_zero, List.set_cons_succ]
        rfl
      refine pure_ (i := 6) (N := some 93) (v := ?_) (a' := ?_) #[true, true, true, true, true, true, true, false, false, false, false, false, false] rfl rfl (any_of HT_.out (by kernel_rfl)) (fun _ _ _ h => h) (Or.inl ⟨by rfl, ?_⟩) ?_ ?_
      rotate_left
      · intro w'
        go_simp
        with_reducible rfl
      rotate_left
      · simp only [Act.put, List.setIfInBounds_toArray, List.set_cons_zero, List.set_cons_succ]
        rfl
      refine pure_ (i := 7) (N := some 94) (v := ?_) (a' := ?_) #[true, true, true, true, true, true, true, true, false, false, false, false, false] rfl rfl (any_of HT_.out (by kernel_rfl)) (fun _ _ _ h => h) (Or.inl ⟨by rfl, ?_⟩) ?_ ?_
      rotate_left
      · intro w'
        go_simp
        with_reducible rfl
      rotate_left
      · simp only [Act.put, List.setIfInBounds_toArray, List.set_cons_zero, List.set_cons_succ]
        rfl
      refine take_ (i := 8) (N := some 95) (v := ?_) (a' := ?_) #[true, true, true, true, true, true, true, true, true, false, false, false, false] rfl rfl (take_of HT_.out (by kernel_rfl)) (fun _ _ _ h => h) (Or.inl ⟨by rfl, ?_⟩) hHeld ?_ ?_
      rotate_left
      · intro w' hw'
        obtain ⟨s0, s1⟩ := hw'
        go_simp
        with_reducible rfl
      rotate_left
      · simp only [Act.put, List.setIfInBounds_toArray, List.set_cons_zero, List.set_cons_succ]
        rfl
      refine pure_ (i := 9) (N := some 96) (v := ?_) (a' := ?_) #[true, true, true, true, true, true, true, true, true, true, false, false, false] rfl rfl (any_of HT_.out (by kernel_rfl)) (fun _ _ _ h => h) (Or.inl ⟨by rfl, ?_⟩) ?_ ?_
      rotate_left
      · intro w'
        go_simp
        with_reducible rfl
      rotate_left
      · simp only [Act.put, List.setIfInBounds_toArray, List.set_cons_zero, List.set_cons_succ]
        rfl
      refine pure_ (i := 10) (N := some 97) (v := ?_) (a' := ?_) #[true, true, true, true, true, true, true, true, true, true, true, false, false] rfl rfl (any_of HT_.out (by kernel_rfl)) (fun _ _ _ h => h) (Or.inl ⟨by rfl, ?_⟩) ?_ ?_
      rotate_left
      · intro w'
        go_simp
        with_reducible rfl
      rotate_left
      · simp only [Act.put, List.setIfInBounds_toArray, List.set_cons_zero, List.set_cons_succ]
        rfl
      refine pure_ (i := 11) (N := some 98) (v := ?_) (a' := ?_) #[true, true, true, true, true, true, true, true, true, true, true, true, false] rfl rfl (any_of HT_.out (by kernel_rfl)) (fun _ _ _ h => h) (Or.inl ⟨by rfl, ?_⟩) ?_ ?_
      rotate_left
      · intro w'
        go_simp
        with_reducible rfl
      rotate_left
      · simp only [Act.put, List.setIfInBounds_toArray, List.set_cons_zero, List.set_cons_succ]
        rfl
      refine last_ (i := 12) (N := none) #[true, true, true, true, true, true, true, true, true, true, true, true, true] rfl rfl (one_of HT_.out (by kernel_rfl)) (by decide) (fun Kq_ hK_ => ?_)
      refine skip_ (w1 := ?_) (by rfl) rfl ?_ ?_
      rotate_left
      · go_simp
        first | done | rfl
      refine hK_.out _ _ ?_
      clear hK_ Kq_
      refine done_ (done_of HT_.out (by kernel_rfl)) ?_
      clear HT_ hHeld
      obtain ⟨w7, hw7⟩ : ∃ w7, w7 = (w16.setCell ⟨(ad.add (k * 2)).block, (ad.add (k * 2)).off + 1, none⟩ (.bool (!bk))).drew := ⟨_, rfl⟩
      rw [← hw7]
      rw [HGA.out] at hw7
      have HO9 := Aside0.mk (show Kd.R Lk 35 w16 y6.heap.size (fun _ => True) (.slice (some ⟨g, 0, none⟩) L.length c9) L by have := HO.out; rwa [HAD.out] at this)
      have hng : some w.heap.size ≠ (Value.slice (some ⟨g, 0, none⟩) L.length c9).ownBlock := Kd.R_ne HO9.out HFC.out (by decide)
      have hnp : some p12 ≠ (Value.slice (some ⟨g, 0, none⟩) L.length c9).ownBlock := Kd.R_ne HO9.out HG.out (by decide)
      have hng' : w.heap.size ≠ g := fun h => hng (by rw [h]; rfl)
      have hnp' : p12 ≠ g := fun h => hnp (by rw [h]; rfl)
      have hfl := R_flip HO9.out k HKL.out (!bk)
      have hcl : Kd.C Lk w7 (some ad) L.length (L.set k ((L.getD k (0, false)).1, !bk)) := by rw [hw7, HAD.out]; have q := (Kd.R_reads' (Kd.R_below hfl (below_drew (Below.refl _ _)))).2.2; rwa [List.length_set] at q
      have hgw : w7.heap[p12]? = some (foundObj m ok (.slice (some ad) L.length c9)) := by rw [hw7]; exact (Below.heap_setCell w16 ⟨g, k * 2 + 1, none⟩ _ p12 hnp').trans HG.out
      have hfw : w7.heap[w.heap.size]? = some (.cells #[.int .u64 n] 22 (0, 0)) := by rw [hw7]; exact (Below.heap_setCell w16 ⟨g, k * 2 + 1, none⟩ _ w.heap.size hng').trans HFC.out
      have hbg := Kd.R_base HO9.out g rfl
      have hbw : Below w.heap.size w w7 := by rw [hw7]; exact below_drew (HB1.out.setCell (p := ⟨g, k * 2 + 1, none⟩) (Nat.le_trans HBY.out hbg) _)
      have HAG := Aside0.mk (show againB (L.set k ((L.getD k (0, false)).1, !bk)) (badG n) = false by rw [HBK.out]; exact flip_lies HF.out.ag HKL.out)
      have HCL := Aside0.mk hcl
      have HFW := Aside0.mk hfw
      have HBW := Aside0.mk hbw
      obtain ⟨y0, y1, y2'⟩ := found_cells hgw
      clear hw7 hng hnp hng' hnp' hfl hcl hgw hfw hbg hbw c9' z9 x0 x1 x2
      go_wp2_with (go_at_call 15; go_must (refine (again_search m ok (some ad) L.length c9 (L.set k ((L.getD k (0, false)).1, !bk)) _ n (w.heap.size) HCL.out (flip_mem HKL.out HF.out.wl _) (blk_cell HFW.out 0)).mono ?_; rintro e y9 ⟨rfl, hb⟩; rw [HAG.out]; have HBE := Aside0.mk (HBW.out.trans (hb.mono HBW.out.size)); clear hb))
      go_ret
      exact ⟨rfl, HBE.out⟩
end Go.Proofs.Ytoojmbifkjocfaa.Proof
