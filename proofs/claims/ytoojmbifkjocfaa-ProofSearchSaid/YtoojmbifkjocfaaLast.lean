/- What search.Last answers, of any moments, asked by ProofSearch's closure. (Turned from this session's own text of layer 52 to the seat of layer 53.) Conditions stand in each statement. -/
import Derived.Test.YtoojmbifkjocfaaLk
import Derived.Test.YtoojmbifkjocfaaSearchPlain
import Derived.Test.YtoojmbifkjocfaaAgain
import Derived.IntWalk
import Derived.Outline
import Derived.Deep.DeepMust
namespace Go.Proofs.Ytoojmbifkjocfaa.Search
open Go.RowKit Go.Proofs.YtoojmbifkjocfaaW.PrintWords Go.Proofs.YtoojmbifkjocfaaW.PrintLast Go.Proofs.YtoojmbifkjocfaaW.PrintMore Go.Proofs.Ytoojmbifkjocfaa.Kit Go.Proofs.Ytoojmbifkjocfaa.Plain Go.Proofs.Ytoojmbifkjocfaa.Proof
set_option linter.unusedVariables false
set_option linter.unusedSimpArgs false
def tabRise : Bool × List (List Nat × List Nat) := (true, [([], []), ([], []), ([0, 1], [0, 1]), ([2], [2]), ([], []), ([], []), ([5], [5]), ([4, 6], [4, 6]), ([7], [7]), ([3, 8], [3, 8])])
theorem tabRise_ok : rtab .any (opsOf Try.f31 4) = tabRise := by kernel_rfl
set_option maxHeartbeats 800000 in
set_option maxRecDepth 100000 in
theorem rise_any (A : Option Addr) (n c : Nat) (l : List Int) (w : World) (hr : RdM w A n l) :
    Calls Try.prog 31 #[.slice A n c] w fun e w' => e = .returned (.bool (riseB l)) ∧ Below w.heap.size w w' := by
  obtain rfl := C_len hr
  have HB := Aside0.mk (Below.refl w.heap.size w)
  have hm := C_max hr
  have HR := Aside0.mk hr
  clear hr
  go_enter Try.func31, Try.ntmps31
  go_wp2
  go_loopg [3] l.length (fun gk v w' => ∃ j : Nat, v = .int .i64 ((j : Int) + 1) ∧ (j + gk = l.length ∨ (j = 0 ∧ gk = 0 ∧ l.length = 0)) ∧ Aside0 (∀ i, i < j → i + 1 < l.length → nth l i < nth l (i + 1)) ∧ Aside0 (Below w.heap.size w w'))
  case atStart => exact ⟨0, rfl, .inl (by omega), ⟨fun i hi => by omega⟩, HB⟩
  case round =>
    clear HB
    obtain ⟨j, rfl, hj, HJ, HB⟩ := hrel
    by_cases hlt : j + 1 < l.length
    · obtain ⟨ad, rfl, hc1⟩ := C_at HR.out j (by omega)
      obtain ⟨ad', he', hc2⟩ := C_at HR.out (j + 1) (by omega)
      injection he' with he'
      subst he'
      have hae : ad.add (j + 1) = ⟨ad.block, ad.off + (j + 1), none⟩ := by unfold Addr.add; split <;> simp_all
      rw [hae] at hc2
      have HC1 := Aside0.mk hc1
      have HC2 := Aside0.mk hc2
      clear hc1 hc2 hae
      have e4 : IntKind.i64.wrap ((j : Int) + 1 - 1) = (j : Int) := by rw [IntWalk.i64_in _ (by omega)]; omega
      have e5 : (j : Int) + 1 - 1 = (j : Int) := by omega
      have e6 : IntKind.i64.wrap (j : Int) = (j : Int) := IntWalk.i64_in _ (by omega)
      have hi0 : 0 ≤ (j : Int) + 1 := by omega
      have hi1 : (j : Int) + 1 < (l.length : Int) := by omega
      have hi2 : (j : Int) < (l.length : Int) := by omega
      by_cases hn : nth l j < nth l (j + 1)
      · have f1 : decide (nth l (j + 1) ≤ nth l j) = false := decide_eq_false (by omega)
        have HN := Aside0.mk hn
        clear hn
        go_wp2_with (fail)
        refine start_ (n := 10) (S := fun w' => w'.cell? (ad.add j) = some (.int .u64 (nth l j)) ∧ w'.cell? ⟨ad.block, ad.off + (j + 1), none⟩ = some (.int .u64 (nth l (j + 1)))) (ds := []) #[false, false, false, false, false, false, false, false, false, false] (by kernel_rfl) rfl rfl ⟨pw_cell_below (below_drew HB.out) HC1.out, pw_cell_below (below_drew HB.out) HC2.out⟩ (fun hHeld => ?_); refine with_tab tabRise_ok (fun HT_ => ?_)
        have hb : Below wr.heap.size wr wr.drew := below_drew (Below.refl _ _)
        replace HB := Aside0.mk (HB.out.trans (hb.mono HB.out.size))
        clear hb
        refine pure_ (i := 0) (N := some 10) (v := ?_) (a' := ?_) #[true, false, false, false, false, false, false, false, false, false] rfl rfl (any_of HT_.out (by kernel_rfl)) (fun _ _ _ h => h) (Or.inl ⟨by rfl, ?_⟩) ?_ ?_
        rotate_left
        · intro w'
          go_simp
          with_reducible rfl
        rotate_left
        · simp only [Act.put, List.setIfInBounds_toArray, List.set_cons_zero, List.set_cons_succ]
          rfl
        refine pure_ (i := 1) (N := some 11) (v := ?_) (a' := ?_) #[true, true, false, false, false, false, false, false, false, false] rfl rfl (any_of HT_.out (by kernel_rfl)) (fun _ _ _ h => h) (Or.inl ⟨by rfl, ?_⟩) ?_ ?_
        rotate_left
        · intro w'
          go_simp
          with_reducible rfl
        rotate_left
        · simp only [Act.put, List.setIfInBounds_toArray, List.set_cons_zero, List.set_cons_succ]
          rfl
        refine pure_ (i := 2) (N := some 12) (v := ?_) (a' := ?_) #[true, true, true, false, false, false, false, false, false, false] rfl rfl (any_of HT_.out (by kernel_rfl)) (fun _ _ _ h => h) (Or.inl ⟨by rfl, ?_⟩) ?_ ?_
        rotate_left
        · intro w'
          go_simp
          with_reducible rfl
        rotate_left
        · simp only [Act.put, List.setIfInBounds_toArray, List.set_cons_zero, List.set_cons_succ]
          rfl
        refine take_ (i := 3) (N := some 13) (v := ?_) (a' := ?_) #[true, true, true, true, false, false, false, false, false, false] rfl rfl (take_of HT_.out (by kernel_rfl)) (fun _ _ _ h => h) (Or.inl ⟨by rfl, ?_⟩) hHeld ?_ ?_
        rotate_left
        · intro w' hw'
          obtain ⟨hw1, hw2⟩ := hw'
          go_simp
          with_reducible rfl
        rotate_left
        · simp only [Act.put, List.setIfInBounds_toArray, List.set_cons_zero, List.set_cons_succ]
          rfl
        refine pure_ (i := 4) (N := some 14) (v := ?_) (a' := ?_) #[true, true, true, true, true, false, false, false, false, false] rfl rfl (any_of HT_.out (by kernel_rfl)) (fun _ _ _ h => h) (Or.inl ⟨by rfl, ?_⟩) ?_ ?_
        rotate_left
        · intro w'
          go_simp
          with_reducible rfl
        rotate_left
        · simp only [Act.put, List.setIfInBounds_toArray, List.set_cons_zero, List.set_cons_succ]
          rfl
        refine pure_ (i := 5) (N := some 15) (v := ?_) (a' := ?_) #[true, true, true, true, true, true, false, false, false, false] rfl rfl (any_of HT_.out (by kernel_rfl)) (fun _ _ _ h => h) (Or.inl ⟨by rfl, ?_⟩) ?_ ?_
        rotate_left
        · intro w'
          go_simp
          with_reducible rfl
        rotate_left
        · simp only [Act.put, List.setIfInBounds_toArray, List.set_cons_zero, List.set_cons_succ]
          rfl
        refine pure_ (i := 6) (N := some 16) (v := ?_) (a' := ?_) #[true, true, true, true, true, true, true, false, false, false] rfl rfl (any_of HT_.out (by kernel_rfl)) (fun _ _ _ h => h) (Or.inl ⟨by rfl, ?_⟩) ?_ ?_
        rotate_left
        · intro w'
          go_simp
          with_reducible rfl
        rotate_left
        · simp only [Act.put, List.setIfInBounds_toArray, List.set_cons_zero, List.set_cons_succ]
          rfl
        refine pure_ (i := 7) (N := some 17) (v := ?_) (a' := ?_) #[true, true, true, true, true, true, true, true, false, false] rfl rfl (any_of HT_.out (by kernel_rfl)) (fun _ _ _ h => h) (Or.inl ⟨by rfl, ?_⟩) ?_ ?_
        rotate_left
        · intro w'
          go_simp
          with_reducible rfl
        rotate_left
        · simp only [Act.put, List.setIfInBounds_toArray, List.set_cons_zero, List.set_cons_succ]
          rfl
        refine take_ (i := 8) (N := some 18) (v := ?_) (a' := ?_) #[true, true, true, true, true, true, true, true, true, false] rfl rfl (take_of HT_.out (by kernel_rfl)) (fun _ _ _ h => h) (Or.inl ⟨by rfl, ?_⟩) hHeld ?_ ?_
        rotate_left
        · intro w' hw'
          obtain ⟨hw1, hw2⟩ := hw'
          go_simp
          with_reducible rfl
        rotate_left
        · simp only [Act.put, List.setIfInBounds_toArray, List.set_cons_zero, List.set_cons_succ]
          rfl
        refine pure_ (i := 9) (N := some 19) (v := ?_) (a' := ?_) #[true, true, true, true, true, true, true, true, true, true] rfl rfl (any_of HT_.out (by kernel_rfl)) (fun _ _ _ h => h) (Or.inl ⟨by rfl, ?_⟩) ?_ ?_
        rotate_left
        · intro w'
          go_simp
          with_reducible rfl
        rotate_left
        · simp only [Act.put, List.setIfInBounds_toArray, List.set_cons_zero, List.set_cons_succ]
          rfl
        refine done_ (done_of HT_.out (by kernel_rfl)) ?_
        clear HT_ hHeld e4 e5 e6 hi0 hi1 hi2
        go_wp2
        go_roundg (gk - 1)
        case measure => omega
        case rel => exact ⟨j + 1, by go_num, .inl (by omega), ⟨fun i hi hi2 => by
            rcases Nat.lt_or_ge i j with h | h
            · exact HJ.out i h hi2
            · obtain rfl : i = j := by omega
              exact HN.out⟩, HB⟩
      · have f1 : decide (nth l (j + 1) ≤ nth l j) = true := decide_eq_true (by omega)
        have HN := Aside0.mk (riseB_no hlt hn)
        clear hn
        go_wp2_with (fail)
        refine start_ (n := 10) (S := fun w' => w'.cell? (ad.add j) = some (.int .u64 (nth l j)) ∧ w'.cell? ⟨ad.block, ad.off + (j + 1), none⟩ = some (.int .u64 (nth l (j + 1)))) (ds := []) #[false, false, false, false, false, false, false, false, false, false] (by kernel_rfl) rfl rfl ⟨pw_cell_below (below_drew HB.out) HC1.out, pw_cell_below (below_drew HB.out) HC2.out⟩ (fun hHeld => ?_); refine with_tab tabRise_ok (fun HT_ => ?_)
        have hb : Below wr.heap.size wr wr.drew := below_drew (Below.refl _ _)
        replace HB := Aside0.mk (HB.out.trans (hb.mono HB.out.size))
        clear hb
        refine pure_ (i := 0) (N := some 10) (v := ?_) (a' := ?_) #[true, false, false, false, false, false, false, false, false, false] rfl rfl (any_of HT_.out (by kernel_rfl)) (fun _ _ _ h => h) (Or.inl ⟨by rfl, ?_⟩) ?_ ?_
        rotate_left
        · intro w'
          go_simp
          with_reducible rfl
        rotate_left
        · simp only [Act.put, List.setIfInBounds_toArray, List.set_cons_zero, List.set_cons_succ]
          rfl
        refine pure_ (i := 1) (N := some 11) (v := ?_) (a' := ?_) #[true, true, false, false, false, false, false, false, false, false] rfl rfl (any_of HT_.out (by kernel_rfl)) (fun _ _ _ h => h) (Or.inl ⟨by rfl, ?_⟩) ?_ ?_
        rotate_left
        · intro w'
          go_simp
          with_reducible rfl
        rotate_left
        · simp only [Act.put, List.setIfInBounds_toArray, List.set_cons_zero, List.set_cons_succ]
          rfl
        refine pure_ (i := 2) (N := some 12) (v := ?_) (a' := ?_) #[true, true, true, false, false, false, false, false, false, false] rfl rfl (any_of HT_.out (by kernel_rfl)) (fun _ _ _ h => h) (Or.inl ⟨by rfl, ?_⟩) ?_ ?_
        rotate_left
        · intro w'
          go_simp
          with_reducible rfl
        rotate_left
        · simp only [Act.put, List.setIfInBounds_toArray, List.set_cons_zero, List.set_cons_succ]
          rfl
        refine take_ (i := 3) (N := some 13) (v := ?_) (a' := ?_) #[true, true, true, true, false, false, false, false, false, false] rfl rfl (take_of HT_.out (by kernel_rfl)) (fun _ _ _ h => h) (Or.inl ⟨by rfl, ?_⟩) hHeld ?_ ?_
        rotate_left
        · intro w' hw'
          obtain ⟨hw1, hw2⟩ := hw'
          go_simp
          with_reducible rfl
        rotate_left
        · simp only [Act.put, List.setIfInBounds_toArray, List.set_cons_zero, List.set_cons_succ]
          rfl
        refine pure_ (i := 4) (N := some 14) (v := ?_) (a' := ?_) #[true, true, true, true, true, false, false, false, false, false] rfl rfl (any_of HT_.out (by kernel_rfl)) (fun _ _ _ h => h) (Or.inl ⟨by rfl, ?_⟩) ?_ ?_
        rotate_left
        · intro w'
          go_simp
          with_reducible rfl
        rotate_left
        · simp only [Act.put, List.setIfInBounds_toArray, List.set_cons_zero, List.set_cons_succ]
          rfl
        refine pure_ (i := 5) (N := some 15) (v := ?_) (a' := ?_) #[true, true, true, true, true, true, false, false, false, false] rfl rfl (any_of HT_.out (by kernel_rfl)) (fun _ _ _ h => h) (Or.inl ⟨by rfl, ?_⟩) ?_ ?_
        rotate_left
        · intro w'
          go_simp
          with_reducible rfl
        rotate_left
        · simp only [Act.put, List.setIfInBounds_toArray, List.set_cons_zero, List.set_cons_succ]
          rfl
        refine pure_ (i := 6) (N := some 16) (v := ?_) (a' := ?_) #[true, true, true, true, true, true, true, false, false, false] rfl rfl (any_of HT_.out (by kernel_rfl)) (fun _ _ _ h => h) (Or.inl ⟨by rfl, ?_⟩) ?_ ?_
        rotate_left
        · intro w'
          go_simp
          with_reducible rfl
        rotate_left
        · simp only [Act.put, List.setIfInBounds_toArray, List.set_cons_zero, List.set_cons_succ]
          rfl
        refine pure_ (i := 7) (N := some 17) (v := ?_) (a' := ?_) #[true, true, true, true, true, true, true, true, false, false] rfl rfl (any_of HT_.out (by kernel_rfl)) (fun _ _ _ h => h) (Or.inl ⟨by rfl, ?_⟩) ?_ ?_
        rotate_left
        · intro w'
          go_simp
          with_reducible rfl
        rotate_left
        · simp only [Act.put, List.setIfInBounds_toArray, List.set_cons_zero, List.set_cons_succ]
          rfl
        refine take_ (i := 8) (N := some 18) (v := ?_) (a' := ?_) #[true, true, true, true, true, true, true, true, true, false] rfl rfl (take_of HT_.out (by kernel_rfl)) (fun _ _ _ h => h) (Or.inl ⟨by rfl, ?_⟩) hHeld ?_ ?_
        rotate_left
        · intro w' hw'
          obtain ⟨hw1, hw2⟩ := hw'
          go_simp
          with_reducible rfl
        rotate_left
        · simp only [Act.put, List.setIfInBounds_toArray, List.set_cons_zero, List.set_cons_succ]
          rfl
        refine pure_ (i := 9) (N := some 19) (v := ?_) (a' := ?_) #[true, true, true, true, true, true, true, true, true, true] rfl rfl (any_of HT_.out (by kernel_rfl)) (fun _ _ _ h => h) (Or.inl ⟨by rfl, ?_⟩) ?_ ?_
        rotate_left
        · intro w'
          go_simp
          with_reducible rfl
        rotate_left
        · simp only [Act.put, List.setIfInBounds_toArray, List.set_cons_zero, List.set_cons_succ]
          rfl
        refine done_ (done_of HT_.out (by kernel_rfl)) ?_
        clear HT_ hHeld e4 e5 e6 hi0 hi1 hi2
        go_wp2
        go_ret
        exact ⟨retB HN.out.symm, HB.out⟩
    · have HN : Aside0 (riseB l = decide (0 < l.length)) := ⟨by
        by_cases h0 : 0 < l.length
        · rw [decide_eq_true h0, riseB_yes h0 (fun i hi => HJ.out i (by omega) hi)]
        · rw [decide_eq_false h0, riseB_nil h0]⟩
      go_wp2
      go_ret
      exact ⟨retB (by rw [HN.out]), HB.out⟩
theorem found_set3 {W : World} {g : Nat} {a0 : Int} {o0 : Bool} {v0 : Value} (h : W.heap[g]? = some (foundObj a0 o0 v0)) (a : Int) (o : Bool) (v : Value) :
    (((W.setCell ⟨g, 0, none⟩ (.int .u64 a)).setCell ⟨g, 1, none⟩ (.bool o)).setCell ⟨g, 2, none⟩ v).heap[g]? = some (foundObj a o v) := blk_set (blk_set (blk_set h 0 _) 1 _) 2 _
theorem two_new {w w1 : World} {o1 o2 : Obj} (hb : Below ((w.alloc o1).alloc o2).heap.size ((w.alloc o1).alloc o2) w1) :
    w1.heap[w.heap.size]? = some o1 ∧ w1.heap[w.heap.size + 1]? = some o2 ∧ Below w.heap.size w w1 := by
  refine ⟨(hb.block _ (by simp; omega)).trans (blk_alloc (blk_new w o1) o2), ?_, (below_alloc (below_alloc (Below.refl _ _) _) _).trans (hb.mono (by simp; omega))⟩
  have h1 := blk_new (w.alloc o1) o2
  have h2 : (w.alloc o1).heap.size = w.heap.size + 1 := by simp
  rw [h2] at h1
  exact (hb.block _ (by simp)).trans h1
set_option maxHeartbeats 800000 in
set_option maxRecDepth 100000 in
theorem look_search (g : Nat) (a : Int) (o : Bool) (v : Value) (xs : List (Int × Bool)) (m tb : Int) (gt : Nat) (W : World) (base : Nat) (ok : Nat → Prop) (hok : ∀ k, ok k → k ≠ g) (hfr : ∀ k, W.heap.size ≤ k → ok k) (hg : W.heap[g]? = some (foundObj a o v)) (hbg : base ≤ g)
    (hL : Kd.R Lk 35 W base ok v xs) (hc : W.cell? ⟨gt, 0, none⟩ = some (.int .u64 tb)) (hlen : xs.length ≤ 1000000) :
    Calls Try.prog 32 #[.pointer (some ⟨g, 0, none⟩), .int .u64 m, .func (.func 20) #[] #[.pointer (some ⟨gt, 0, none⟩)]] W fun e w' =>
      e = .returned (.bool (badG tb m)) ∧ ∃ v', w'.heap[g]? = some (foundObj a o v') ∧ Kd.R Lk 35 w' base ok v' (xs ++ [(m, badG tb m)]) ∧ Below base W w' ∧ KeepBut W w' g v.ownBlock := by
  have c2 : W.cell? ⟨g, 2, none⟩ = some v := blk_cell hg 2
  have z2 : W.frozen? ⟨g, 2, none⟩ = false := blk_frozen hg 2
  have HG := Aside0.mk hg
  have HL := Aside0.mk hL
  clear hg hL
  have hne : ∀ W : World, (binOp .neq 38 (.func (.func 20) #[] #[.pointer (some ⟨gt, 0, none⟩)]) .nilFunc).run Try.prog W = .ok (.bool true) W := fun _ => rfl
  go_enter Try.func32, Try.ntmps32
  go_wp2_with (first
    | ((with_reducible refine gate_builtin (b := .append) (xs := #[.tmp 19, .tmp 23]) rfl ?_); at_builtin; go_must (refine Kd.R_append Lk (w0 := W) base rfl (.tmp 19) (.tmp 23) 23 35 (.agg #[.int .u64 0, .bool false]) 16 rfl Try.underlying23 infoLk rfl (by decide) (by omega) v xs (m, badG tb m) (lkEnc (m, badG tb m)) ok (fun _ => False) rfl rfl ?hp ?hokp hfr HL.out (Below.refl _ _) ?hb (by omega) ?_; (case hp => rfl); (case hokp => exact fun k hk => hk.elim); (case hb => have := blk_lt HG.out; omega); intro v1 w1 ho hb hgr hat; obtain ⟨A1, c1, rfl⟩ := Kd.R_slice ho; have hg1 := blk_grown HG.out hgr (fun he => hok g (HL.out.1 g he.symm) rfl); have c3 : w1.cell? ⟨g, 2, none⟩ = some v := blk_cell hg1 2; have z3 : w1.frozen? ⟨g, 2, none⟩ = false := blk_frozen hg1 2; have HG1 := Aside0.mk hg1; have HO1 := Aside0.mk ho; have HB1 := Aside0.mk hb; have HK1 := Aside0.mk (KeepBut.of_grown hgr g); clear hg1 ho hb hgr hat))
    | (go_at_call 20; refine (search1_any tb m gt _ hc).mono ?_; rintro e w1 ⟨rfl, rfl⟩))
  go_ret
  rw [List.length_append, List.length_singleton] at HO1
  refine ⟨rfl, _, ?_, R_set_far HO1.out hok, HB1.out.setCell hbg _, HK1.out.set_ 2 _⟩
  exact blk_set HG1.out 2 _

/-- Where Last and Each stand: w0 is the world in which they were called; the result's cells and f's cells are the first two new blocks; f.L reads xs. -/
structure St (w0 W : World) (v : Value) (xs : List (Int × Bool)) : Prop where
  hb : Below w0.heap.size w0 W
  h4 : W.heap[w0.heap.size]? = some (foundObj 0 false (.slice none 0 0))
  h5 : W.heap[w0.heap.size + 1]? = some (foundObj 0 false v)
  hl : Kd.R Lk 35 W w0.heap.size (fun k => k ≠ w0.heap.size + 1 ∧ k ≠ w0.heap.size) v xs
theorem St.start {w w1 : World} (hb : Below ((w.alloc (.cells #[.int .u64 0, .bool false, .slice none 0 0] 25)).alloc (.cells #[.int .u64 0, .bool false, .slice none 0 0] 25)).heap.size ((w.alloc (.cells #[.int .u64 0, .bool false, .slice none 0 0] 25)).alloc (.cells #[.int .u64 0, .bool false, .slice none 0 0] 25)) w1) : St w w1 (.slice none 0 0) [] := by
  obtain ⟨h4, h5, h⟩ := two_new hb
  exact ⟨h, h4, h5, Kd.R_nil _ _ _ _ _⟩
theorem St.grow {w0 W w' : World} {v v' : Value} {xs xs' : List (Int × Bool)} (h : St w0 W v xs) (h5 : w'.heap[w0.heap.size + 1]? = some (foundObj 0 false v')) (hl : Kd.R Lk 35 w' w0.heap.size (fun k => k ≠ w0.heap.size + 1 ∧ k ≠ w0.heap.size) v' xs')
    (hb : Below w0.heap.size W w') (hk : KeepBut W w' (w0.heap.size + 1) v.ownBlock) : St w0 w' v' xs' :=
  ⟨h.hb.trans hb, hk.blk h.h4 (by omega) (fun he => (h.hl.1 _ he.symm).2 rfl), h5, hl⟩
theorem lookst_search {w0 W : World} {v : Value} {xs : List (Int × Bool)} (h : St w0 W v xs) (m tb : Int) (gt : Nat) (hc : w0.cell? ⟨gt, 0, none⟩ = some (.int .u64 tb)) (hlen : xs.length ≤ 1000000) :
    Calls Try.prog 32 #[.pointer (some ⟨w0.heap.size + 1, 0, none⟩), .int .u64 m, .func (.func 20) #[] #[.pointer (some ⟨gt, 0, none⟩)]] W fun e w' =>
      e = .returned (.bool (badG tb m)) ∧ ∃ A c, St w0 w' (.slice A (xs.length + 1) c) (xs ++ [(m, badG tb m)]) := by
  refine (look_search (w0.heap.size + 1) 0 false v xs m tb gt W w0.heap.size (fun k => k ≠ w0.heap.size + 1 ∧ k ≠ w0.heap.size) (fun k hk => hk.1) (fun k hk => by have := blk_lt h.h5; omega) h.h5 (by omega) h.hl (pw_cell_below h.hb hc) hlen).mono ?_
  rintro e w' ⟨rfl, v', h5, hl, hb, hk⟩
  obtain ⟨A, c, rfl⟩ := Kd.R_slice hl
  rw [List.length_append, List.length_singleton] at h5 hl
  exact ⟨rfl, A, c, h.grow h5 hl hb hk⟩

/-- What the cells of the two are, and that they may be written. -/
theorem St.cells {w0 W : World} {v : Value} {xs : List (Int × Bool)} (h : St w0 W v xs) :
    (W.cell? ⟨w0.heap.size, 0, none⟩ = some (.int .u64 0) ∧ W.cell? ⟨w0.heap.size, 1, none⟩ = some (.bool false) ∧ W.cell? ⟨w0.heap.size, 2, none⟩ = some (.slice none 0 0) ∧
     W.frozen? ⟨w0.heap.size, 0, none⟩ = false ∧ W.frozen? ⟨w0.heap.size, 1, none⟩ = false ∧ W.frozen? ⟨w0.heap.size, 2, none⟩ = false) ∧
    (W.cell? ⟨w0.heap.size + 1, 0, none⟩ = some (.int .u64 0) ∧ W.cell? ⟨w0.heap.size + 1, 1, none⟩ = some (.bool false) ∧ W.cell? ⟨w0.heap.size + 1, 2, none⟩ = some v ∧
     W.frozen? ⟨w0.heap.size + 1, 0, none⟩ = false ∧ W.frozen? ⟨w0.heap.size + 1, 1, none⟩ = false ∧ W.frozen? ⟨w0.heap.size + 1, 2, none⟩ = false) :=
  ⟨⟨blk_cell h.h4 0, blk_cell h.h4 1, blk_cell h.h4 2, blk_frozen h.h4 0, blk_frozen h.h4 1, blk_frozen h.h4 2⟩, ⟨blk_cell h.h5 0, blk_cell h.h5 1, blk_cell h.h5 2, blk_frozen h.h5 0, blk_frozen h.h5 1, blk_frozen h.h5 2⟩⟩
/-- Only the blocks g and g + 1 have been written. -/
structure Only (g : Nat) (W w' : World) : Prop where
  os : w'.os = W.os
  tape : w'.tape = W.tape
  output : w'.output = W.output
  size : w'.heap.size = W.heap.size
  block : ∀ k, k ≠ g → k ≠ g + 1 → w'.heap[k]? = W.heap[k]?
theorem Only.refl (g : Nat) (W : World) : Only g W W := { os := rfl, tape := rfl, output := rfl, size := rfl, block := fun _ _ _ => rfl }
theorem Only.step {g k : Nat} {W w1 : World} (h : Only g W w1) (hk : k = g ∨ k = g + 1) (i : Nat) (v : Value) : Only g W (w1.setCell ⟨k, i, none⟩ v) := by
  have hb : Below k w1 (w1.setCell ⟨k, i, none⟩ v) := (Below.refl k w1).setCell (Nat.le_refl _) v
  refine ⟨hb.os.trans h.os, hb.tape.trans h.tape, hb.output.trans h.output, ?_, fun j h1 h2 => ?_⟩
  · simp [h.size]
  · rw [← h.block j h1 h2]
    have hkb := (KeepBut.refl w1 k none).set_ i v
    by_cases hj : j < w1.heap.size
    · exact hkb.2 j hj (by omega) (by simp)
    · rw [Array.getElem?_eq_none (by simp; omega), Array.getElem?_eq_none (by omega)]
theorem Only.s0 {g : Nat} {W w1 : World} (h : Only g W w1) (i : Nat) (v : Value) : Only g W (w1.setCell ⟨g, i, none⟩ v) := h.step (.inl rfl) i v
theorem Only.s1 {g : Nat} {W w1 : World} (h : Only g W w1) (i : Nat) (v : Value) : Only g W (w1.setCell ⟨g + 1, i, none⟩ v) := h.step (.inr rfl) i v

/-- What the two blocks of a search hold. -/
structure Two (g : Nat) (W : World) (v : Value) : Prop where
  h4 : W.heap[g]? = some (foundObj 0 false (.slice none 0 0))
  h5 : W.heap[g + 1]? = some (foundObj 0 false v)
theorem Two.cells {g : Nat} {W : World} {v : Value} (h : Two g W v) :
    (W.cell? ⟨g, 0, none⟩ = some (.int .u64 0) ∧ W.cell? ⟨g, 1, none⟩ = some (.bool false) ∧ W.cell? ⟨g, 2, none⟩ = some (.slice none 0 0) ∧
     W.frozen? ⟨g, 0, none⟩ = false ∧ W.frozen? ⟨g, 1, none⟩ = false ∧ W.frozen? ⟨g, 2, none⟩ = false) ∧
    (W.cell? ⟨g + 1, 0, none⟩ = some (.int .u64 0) ∧ W.cell? ⟨g + 1, 1, none⟩ = some (.bool false) ∧ W.cell? ⟨g + 1, 2, none⟩ = some v ∧
     W.frozen? ⟨g + 1, 0, none⟩ = false ∧ W.frozen? ⟨g + 1, 1, none⟩ = false ∧ W.frozen? ⟨g + 1, 2, none⟩ = false) :=
  ⟨⟨blk_cell h.h4 0, blk_cell h.h4 1, blk_cell h.h4 2, blk_frozen h.h4 0, blk_frozen h.h4 1, blk_frozen h.h4 2⟩, ⟨blk_cell h.h5 0, blk_cell h.h5 1, blk_cell h.h5 2, blk_frozen h.h5 0, blk_frozen h.h5 1, blk_frozen h.h5 2⟩⟩
/-- The world in which Last and Each start to look. -/
abbrev made (w : World) : World := (w.alloc (.cells #[.int .u64 0, .bool false, .slice none 0 0] 25)).alloc (.cells #[.int .u64 0, .bool false, .slice none 0 0] 25)
/-- What a search asks, and where it stands. -/
structure Asks (A : Option Addr) (n : Nat) (l : List Int) (w : World) (fv : Value) (bad : Int → Bool) (T : World → Value → List (Int × Bool) → Prop) : Prop where
  two : ∀ W v xs, T W v xs → Two w.heap.size W v
  rd : ∀ W v xs, T W v xs → RdM W A n l
  start : ∀ w1, Below (made w).heap.size (made w) w1 → T w1 (.slice none 0 0) []
  look : ∀ W A k c xs m, T W (.slice A k c) xs → xs.length = k → 0 ≤ m → k ≤ 1000000 →
    Calls Try.prog 32 #[.pointer (some ⟨w.heap.size + 1, 0, none⟩), .int .u64 m, fv] W fun e w' => e = .returned (.bool (bad m)) ∧ ∃ A c, T w' (.slice A (k + 1) c) (xs ++ [(m, bad m)])

set_option maxHeartbeats 1600000 in
set_option maxRecDepth 100000 in
theorem last_any (A : Option Addr) (n c : Nat) (l : List Int) (w : World) (fv : Value) (bad : Int → Bool) (T : World → Value → List (Int × Bool) → Prop)
    (hr : RdM w A n l) (hl : ∀ x ∈ l, 0 ≤ x) (hn : n ≤ 100000) (hT : Asks A n l w fv bad T) :
    Calls Try.prog 21 #[.slice A n c, fv] w fun e w' =>
      ∃ v W, e = .returned (.agg #[.int .u64 (lastS l bad).m, .bool (lastS l bad).ok, v]) ∧ T W v (lastS l bad).l ∧ Only w.heap.size W w' := by
  obtain rfl := C_len hr
  have HR := Aside0.mk hr
  have H := Aside0.mk hT
  clear hr hT
  by_cases hrise : riseB l = false
  · have HE : Aside0 (lastS l bad = ⟨0, false, []⟩) := ⟨by rw [lastS, if_pos hrise]⟩
    go_enter Try.func21, Try.ntmps21
    go_wp2_with (go_at_call 31; refine (rise_any _ _ _ l _ (Kd.C_below HR.out (below_alloc (below_alloc (Below.refl _ _) _) _))).mono ?_; rintro e w1 ⟨rfl, hb⟩; rw [hrise]; have HS := Aside0.mk (H.out.start _ hb); clear hb; obtain ⟨⟨p0, p1, p2, zp0, zp1, zp2⟩, ⟨q0, q1, q2, zq0, zq1, zq2⟩⟩ := (H.out.two _ _ _ HS.out).cells)
    refine bodyPost_ret (v := .agg #[.int .u64 0, .bool false, .slice none 0 0]) (by simp [results, Try.results21, go_sem, p0, p1, p2]) rfl ?_; exact ⟨_, _, by rw [HE.out], by rw [HE.out]; exact HS.out, (((Only.refl _ _).s0 _ _).s0 _ _).s0 _ _⟩
  have hrise1 : riseB l = true := by simpa using hrise
  obtain ⟨hl0, _⟩ := riseB_spec hrise1
  obtain ⟨K, hK⟩ : ∃ K, K = l.length - 1 := ⟨_, rfl⟩
  have hKl : K < l.length := by omega
  have eK : (l.length : Int) - 1 = (K : Int) := by omega
  obtain ⟨ad, rfl, _⟩ := C_at HR.out K hKl
  have hmK : 0 ≤ nth l K := hl _ (nth_mem hKl)
  by_cases hb1 : bad (nth l K) = false
  · have HE : Aside0 (lastS l bad = ⟨nth l K, true, [(nth l K, bad (nth l K))]⟩) := ⟨by rw [lastS, if_neg hrise, ← hK, if_pos hb1, hb1]⟩
    have HB1 := Aside0.mk hb1
    clear hK hb1 hrise
    go_enter Try.func21, Try.ntmps21
    go_wp2_with (first
      | (go_at_call 31; refine (rise_any _ _ _ l _ (Kd.C_below HR.out (below_alloc (below_alloc (Below.refl _ _) _) _))).mono ?_; rintro e w1 ⟨rfl, hb⟩; rw [hrise1]; have HS := Aside0.mk (H.out.start _ hb); clear hb; obtain ⟨⟨p0, p1, p2, zp0, zp1, zp2⟩, ⟨q0, q1, q2, zq0, zq1, zq2⟩⟩ := (H.out.two _ _ _ HS.out).cells; have hcx := C_at' (H.out.rd _ _ _ HS.out) K hKl)
      | (go_at_call 32; ((with_reducible refine (H.out.look _ _ _ _ _ (nth l K) HS.out rfl hmK (by omega)).mono ?_); rintro e w2 ⟨rfl, A2, c2, hs2⟩; rw [HB1.out]; clear p0 p1 p2 zp0 zp1 zp2 q0 q1 q2 zq0 zq1 zq2; clear HS; have HS := Aside0.mk hs2; clear hs2; obtain ⟨⟨p0, p1, p2, zp0, zp1, zp2⟩, ⟨q0, q1, q2, zq0, zq1, zq2⟩⟩ := (H.out.two _ _ _ HS.out).cells; replace hcx := C_at' (H.out.rd _ _ _ HS.out) K hKl)))
    refine bodyPost_ret (v := .agg #[.int .u64 (nth l K), .bool true, .slice A2 1 c2]) (by simp [results, Try.results21, go_sem, p0, p1, p2]) rfl ?_; exact ⟨_, _, by rw [HE.out], by rw [HE.out]; exact HS.out, (((((Only.refl _ _).s1 _ _).s1 _ _).s0 _ _).s0 _ _).s0 _ _⟩
  have hb1' : bad (nth l K) = true := by simpa using hb1
  by_cases hK0 : K = 0
  · have HE : Aside0 (lastS l bad = ⟨0, false, [(nth l K, bad (nth l K))]⟩) := ⟨by rw [lastS, if_neg hrise, ← hK, if_neg hb1, if_pos hK0, hb1']⟩
    have HB1 := Aside0.mk hb1'
    have hK00 : ((K : Int) == 0) = true := by simp [hK0]
    have hK01 : (K == 0) = true := by simp [hK0]
    clear hb1 hb1' hrise hK hK0
    go_enter Try.func21, Try.ntmps21
    go_wp2_with (first
      | (go_at_call 31; refine (rise_any _ _ _ l _ (Kd.C_below HR.out (below_alloc (below_alloc (Below.refl _ _) _) _))).mono ?_; rintro e w1 ⟨rfl, hb⟩; rw [hrise1]; have HS := Aside0.mk (H.out.start _ hb); clear hb; obtain ⟨⟨p0, p1, p2, zp0, zp1, zp2⟩, ⟨q0, q1, q2, zq0, zq1, zq2⟩⟩ := (H.out.two _ _ _ HS.out).cells; have hcx := C_at' (H.out.rd _ _ _ HS.out) K hKl)
      | (go_at_call 32; ((with_reducible refine (H.out.look _ _ _ _ _ (nth l K) HS.out rfl hmK (by omega)).mono ?_); rintro e w2 ⟨rfl, A2, c2, hs2⟩; rw [HB1.out]; clear p0 p1 p2 zp0 zp1 zp2 q0 q1 q2 zq0 zq1 zq2; clear HS; have HS := Aside0.mk hs2; clear hs2; obtain ⟨⟨p0, p1, p2, zp0, zp1, zp2⟩, ⟨q0, q1, q2, zq0, zq1, zq2⟩⟩ := (H.out.two _ _ _ HS.out).cells; clear hcx)))
    refine bodyPost_ret (v := .agg #[.int .u64 0, .bool false, .slice A2 1 c2]) (by simp [results, Try.results21, go_sem, p0, p1, p2]) rfl ?_; exact ⟨_, _, by rw [HE.out], by rw [HE.out]; exact HS.out, (((Only.refl _ _).s0 _ _).s0 _ _).s0 _ _⟩
  have hm0 : 0 ≤ nth l 0 := hl _ (nth_mem hl0)
  have hK00 : ((K : Int) == 0) = false := by simp [hK0]
  have hK01 : (K == 0) = false := by simp [hK0]
  by_cases hb2 : bad (nth l 0) = true
  · have HE : Aside0 (lastS l bad = ⟨0, false, [(nth l K, bad (nth l K)), (nth l 0, bad (nth l 0))]⟩) := ⟨by rw [lastS, if_neg hrise, ← hK, if_neg hb1, if_neg hK0, if_pos hb2, hb1', hb2]⟩
    have HB1 := Aside0.mk hb1'
    have HB2 := Aside0.mk hb2
    clear hb1 hb1' hb2 hrise hK hK0
    go_enter Try.func21, Try.ntmps21
    go_wp2_with (first
      | (go_at_call 31; refine (rise_any _ _ _ l _ (Kd.C_below HR.out (below_alloc (below_alloc (Below.refl _ _) _) _))).mono ?_; rintro e w1 ⟨rfl, hb⟩; rw [hrise1]; have HS := Aside0.mk (H.out.start _ hb); clear hb; obtain ⟨⟨p0, p1, p2, zp0, zp1, zp2⟩, ⟨q0, q1, q2, zq0, zq1, zq2⟩⟩ := (H.out.two _ _ _ HS.out).cells; have hcx := C_at' (H.out.rd _ _ _ HS.out) K hKl)
      | (go_at_call 32; first
         | ((with_reducible refine (H.out.look _ _ _ _ _ (nth l K) HS.out rfl hmK (by omega)).mono ?_); rintro e w2 ⟨rfl, A2, c2, hs2⟩; rw [HB1.out]; clear p0 p1 p2 zp0 zp1 zp2 q0 q1 q2 zq0 zq1 zq2; clear HS; have HS := Aside0.mk hs2; clear hs2; obtain ⟨⟨p0, p1, p2, zp0, zp1, zp2⟩, ⟨q0, q1, q2, zq0, zq1, zq2⟩⟩ := (H.out.two _ _ _ HS.out).cells; replace hcx := C_at0 (H.out.rd _ _ _ HS.out) hl0)
         | ((with_reducible refine (H.out.look _ _ _ _ _ (nth l 0) HS.out rfl hm0 (by omega)).mono ?_); rintro e w3 ⟨rfl, A3, c3, hs2⟩; rw [HB2.out]; clear p0 p1 p2 zp0 zp1 zp2 q0 q1 q2 zq0 zq1 zq2; clear HS; have HS := Aside0.mk hs2; clear hs2; obtain ⟨⟨p0, p1, p2, zp0, zp1, zp2⟩, ⟨q0, q1, q2, zq0, zq1, zq2⟩⟩ := (H.out.two _ _ _ HS.out).cells; clear hcx)))
    refine bodyPost_ret (v := .agg #[.int .u64 0, .bool false, .slice A3 2 c3]) (by simp [results, Try.results21, go_sem, p0, p1, p2]) rfl ?_; exact ⟨_, _, by rw [HE.out], by rw [HE.out]; exact HS.out, (((Only.refl _ _).s0 _ _).s0 _ _).s0 _ _⟩
  have hb2' : bad (nth l 0) = false := by simpa using hb2
  have HE : Aside0 (lastS l bad = ⟨nth l (halve l bad K 0 K [(nth l K, bad (nth l K)), (nth l 0, bad (nth l 0))]).1, true, (halve l bad K 0 K [(nth l K, bad (nth l K)), (nth l 0, bad (nth l 0))]).2⟩) := ⟨by rw [lastS, if_neg hrise, ← hK, if_neg hb1, if_neg hK0, if_neg hb2, hb1', hb2']⟩
  have HB1 := Aside0.mk hb1'
  have HB2 := Aside0.mk hb2'
  clear hb1 hb1' hb2 hb2' hrise hK
  go_enter Try.func21, Try.ntmps21
  go_wp2_with (first
    | (go_at_call 31; refine (rise_any _ _ _ l _ (Kd.C_below HR.out (below_alloc (below_alloc (Below.refl _ _) _) _))).mono ?_; rintro e w1 ⟨rfl, hb⟩; rw [hrise1]; have HS := Aside0.mk (H.out.start _ hb); clear hb; obtain ⟨⟨p0, p1, p2, zp0, zp1, zp2⟩, ⟨q0, q1, q2, zq0, zq1, zq2⟩⟩ := (H.out.two _ _ _ HS.out).cells; have hcx := C_at' (H.out.rd _ _ _ HS.out) K hKl)
    | (go_at_call 32; first
       | ((with_reducible refine (H.out.look _ _ _ _ _ (nth l K) HS.out rfl hmK (by omega)).mono ?_); rintro e w2 ⟨rfl, A2, c2, hs2⟩; rw [HB1.out]; clear p0 p1 p2 zp0 zp1 zp2 q0 q1 q2 zq0 zq1 zq2; clear HS; have HS := Aside0.mk hs2; clear hs2; obtain ⟨⟨p0, p1, p2, zp0, zp1, zp2⟩, ⟨q0, q1, q2, zq0, zq1, zq2⟩⟩ := (H.out.two _ _ _ HS.out).cells; replace hcx := C_at0 (H.out.rd _ _ _ HS.out) hl0)
       | ((with_reducible refine (H.out.look _ _ _ _ _ (nth l 0) HS.out rfl hm0 (by omega)).mono ?_); rintro e w3 ⟨rfl, A3, c3, hs2⟩; rw [HB2.out]; clear p0 p1 p2 zp0 zp1 zp2 q0 q1 q2 zq0 zq1 zq2; clear HS; have HS := Aside0.mk hs2; clear hs2; obtain ⟨⟨p0, p1, p2, zp0, zp1, zp2⟩, ⟨q0, q1, q2, zq0, zq1, zq2⟩⟩ := (H.out.two _ _ _ HS.out).cells; clear hcx)))
  clear p0 p1 p2 zp0 zp1 zp2 q0 q1 q2 zq0 zq1 zq2
  have hKn : K ≠ 0 := hK0
  clear hK00 hK01 hK0 HB1 HB2
  have HE2 : Aside0 (∀ r, halve l bad K 0 K [(nth l K, bad (nth l K)), (nth l 0, bad (nth l 0))] = r → lastS l bad = ⟨nth l r.1, true, r.2⟩) := ⟨fun r hr => by rw [HE.out, hr]⟩
  clear HE
  go_loopg [6, 7] K (fun gk v6 v7 w' => ∃ (i k fu : Nat) (acc : List (Int × Bool)) (Ax : Option Addr) (cx : Nat), v6 = .int .i64 (k : Int) ∧ v7 = .int .i64 (i : Int) ∧ i < k ∧ k ≤ K ∧ k - i ≤ gk ∧ k - i ≤ fu ∧ acc.length + gk ≤ K + 2 ∧
    Aside0 (T w' (.slice Ax acc.length cx) acc) ∧ Aside0 (halve l bad K 0 K [(nth l K, bad (nth l K)), (nth l 0, bad (nth l 0))] = halve l bad fu i k acc))
  case atStart => exact ⟨0, K, K, [(nth l K, bad (nth l K)), (nth l 0, bad (nth l 0))], A3, c3, rfl, rfl, by omega, by omega, by omega, by omega, by simp; omega, HS, ⟨rfl⟩⟩
  case round =>
    clear HS
    obtain ⟨i, k, fu, acc, Ax, cx, rfl, rfl, hik, hkK, hkg, hkf, hal, HS, HH⟩ := hrel
    by_cases hgo : k - i ≤ 1
    · have HE := Aside0.mk (HE2.out _ (HH.out.trans (halve_end hgo)))
      have hcx := C_at' (H.out.rd _ _ _ HS.out) i (by omega)
      have f1 : decide ((1 : Int) < (k : Int) - (i : Int)) = false := decide_eq_false (by omega)
      obtain ⟨⟨p0, p1, p2, zp0, zp1, zp2⟩, ⟨q0, q1, q2, zq0, zq1, zq2⟩⟩ := (H.out.two _ _ _ HS.out).cells
      go_wp2_with (fail)
      refine bodyPost_ret (v := .agg #[.int .u64 (nth l i), .bool true, .slice Ax acc.length cx]) (by simp [results, Try.results21, go_sem, p0, p1, p2]) rfl ?_
      exact ⟨_, by rw [HE.out], _, by rw [HE.out]; exact HS.out, (((((Only.refl _ _).s1 _ _).s1 _ _).s0 _ _).s0 _ _).s0 _ _⟩
    · have f1 : decide ((1 : Int) < (k : Int) - (i : Int)) = true := decide_eq_true (by omega)
      have hm1 : (i + k) / 2 < l.length := by omega
      have hmm : 0 ≤ nth l ((i + k) / 2) := hl _ (nth_mem hm1)
      obtain ⟨M, hM⟩ : ∃ M, M = (i + k) / 2 := ⟨_, rfl⟩
      rw [← hM] at hm1 hmm
      have e1 : ((i : Int) + (k : Int)) / 2 = (M : Int) := by omega
      have e2 : IntKind.i64.wrap ((i : Int) + (k : Int)) = (i : Int) + (k : Int) := IntWalk.i64_in _ (by omega)
      have e3 : IntKind.i64.wrap (M : Int) = (M : Int) := IntWalk.i64_in _ (by omega)
      have e4 : (0 : Int) ≤ (M : Int) ∧ (M : Int) < (l.length : Int) := by omega
      have hiM : i < M := by omega
      have hMk : M < k := by omega
      have hcx := C_at' (H.out.rd _ _ _ HS.out) M hm1
      obtain ⟨⟨p0, p1, p2, zp0, zp1, zp2⟩, ⟨q0, q1, q2, zq0, zq1, zq2⟩⟩ := (H.out.two _ _ _ HS.out).cells
      by_cases hb : bad (nth l M) = true
      · obtain ⟨g2, hg2, hH2⟩ := halve_bad hgo hkf (by rw [← hM]; exact hb)
        have HH2 := Aside0.mk (HH.out.trans (by rw [hH2, ← hM]))
        rw [← hM] at hg2
        clear hM
        have HB1 := Aside0.mk hb
        clear hH2 hb HH
        go_wp2_with (go_at_call 32; ((with_reducible refine (H.out.look _ _ _ _ _ (nth l M) HS.out rfl hmm (by omega)).mono ?_); rintro e w4 ⟨rfl, A4, c4, hs2⟩; rw [HB1.out]; clear p0 p1 p2 zp0 zp1 zp2 q0 q1 q2 zq0 zq1 zq2; clear HS; have HS := Aside0.mk hs2; clear hs2; obtain ⟨⟨p0, p1, p2, zp0, zp1, zp2⟩, ⟨q0, q1, q2, zq0, zq1, zq2⟩⟩ := (H.out.two _ _ _ HS.out).cells))
        go_roundg (gk - 1)
        case measure => omega
        case rel => exact ⟨i, M, g2, acc ++ [(nth l M, true)], A4, c4, by go_num, by go_num, hiM, by omega, by omega, by omega, by simp; omega, ⟨by have := HS.out; rw [HB1.out] at this; simpa using this⟩, HH2⟩
      · obtain ⟨g2, hg2, hH2⟩ := halve_good hgo hkf (by rw [← hM]; exact hb)
        have HH2 := Aside0.mk (HH.out.trans (by rw [hH2, ← hM]))
        rw [← hM] at hg2
        clear hM
        have HB1 := Aside0.mk (show bad (nth l M) = false by simpa using hb)
        clear hH2 hb HH
        go_wp2_with (go_at_call 32; ((with_reducible refine (H.out.look _ _ _ _ _ (nth l M) HS.out rfl hmm (by omega)).mono ?_); rintro e w4 ⟨rfl, A4, c4, hs2⟩; rw [HB1.out]; clear p0 p1 p2 zp0 zp1 zp2 q0 q1 q2 zq0 zq1 zq2; clear HS; have HS := Aside0.mk hs2; clear hs2; obtain ⟨⟨p0, p1, p2, zp0, zp1, zp2⟩, ⟨q0, q1, q2, zq0, zq1, zq2⟩⟩ := (H.out.two _ _ _ HS.out).cells))
        go_roundg (gk - 1)
        case measure => omega
        case rel => exact ⟨M, k, g2, acc ++ [(nth l M, false)], A4, c4, by go_num, by go_num, hMk, by omega, by omega, by omega, by simp; omega, ⟨by have := HS.out; rw [HB1.out] at this; simpa using this⟩, HH2⟩

theorem Only.below {w W w' : World} (hb : Below w.heap.size w W) (h : Only w.heap.size W w') : Below w.heap.size w w' :=
  ⟨h.os.trans hb.os, h.tape.trans hb.tape, h.output.trans hb.output, by have := h.size; have := hb.size; omega, fun k hk => (h.block k (by omega) (by omega)).trans (hb.block k hk)⟩
theorem St.after {w W w' : World} {v : Value} {xs : List (Int × Bool)} (hs : St w W v xs) (h : Only w.heap.size W w') :
    ∃ A c, v = .slice A xs.length c ∧ Kd.C Lk w' A xs.length xs ∧ Below w.heap.size w w' := by
  have h2 := Kd.R_step hs.hl (fun k hk _ => h.block k hk.2 hk.1)
  obtain ⟨A, c, e, _, hc⟩ := Kd.R_reads h2
  exact ⟨A, c, e, hc, h.below hs.hb⟩
theorem asks_search {A : Option Addr} {n : Nat} {l : List Int} {w : World} {tb : Int} {gt : Nat} (hr : RdM w A n l) (hc : w.cell? ⟨gt, 0, none⟩ = some (.int .u64 tb)) :
    Asks A n l w (.func (.func 20) #[] #[.pointer (some ⟨gt, 0, none⟩)]) (badG tb) (St w) where
  two := fun W v xs h => ⟨h.h4, h.h5⟩
  rd := fun W v xs h => Kd.C_below hr h.hb
  start := fun w1 hb => St.start hb
  look := fun W A k c xs m h hk hm hl => by subst hk; exact lookst_search h m tb gt hc hl
/-- What is found, as a value; its looks read. -/
def Tells (e : Ending) (w w' : World) (F : Fnd) : Prop := ∃ A c, e = .returned (.agg #[.int .u64 F.m, .bool F.ok, .slice A F.l.length c]) ∧ Kd.C Lk w' A F.l.length F.l ∧ Below w.heap.size w w'
theorem last_st {A : Option Addr} {n : Nat} (c : Nat) {l : List Int} {w : World} {fv : Value} {bad : Int → Bool} (hr : RdM w A n l) (hl : ∀ x ∈ l, 0 ≤ x) (hn : n ≤ 100000) (hT : Asks A n l w fv bad (St w)) :
    Calls Try.prog 21 #[.slice A n c, fv] w fun e w' => Tells e w w' (lastS l bad) := by
  refine (last_any A n c l w fv bad _ hr hl hn hT).mono ?_
  rintro e w' ⟨v, W, rfl, hs, ho⟩
  obtain ⟨A, c, rfl, h1, h2⟩ := hs.after ho
  exact ⟨A, c, rfl, h1, h2⟩
end Go.Proofs.Ytoojmbifkjocfaa.Search
