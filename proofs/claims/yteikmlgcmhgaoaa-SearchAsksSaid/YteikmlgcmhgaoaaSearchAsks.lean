/- Bad is asked of just the moments that are told as looked at. -/
import Derived.Test.YteikmlgcmhgaoaaSearchAsk
import Derived.Test.YteikmlgcmhgaoaaSearchLooks
import Derived.IntWalk
import Derived.Outline
import Derived.Deep.DeepMust
namespace Go.Proofs.Yteikmlgcmhgaoaa.Search
open Go.RowKit Go.Proofs.YteikmlgcmhgaoaaW.PrintWords Go.Proofs.YteikmlgcmhgaoaaW.PrintLast Go.Proofs.YteikmlgcmhgaoaaW.PrintMore Go.Proofs.Yteikmlgcmhgaoaa.Kit Go.Proofs.Yteikmlgcmhgaoaa.Plain
set_option linter.unusedVariables false
set_option linter.unusedSimpArgs false
theorem AT.after2 {w W w' : World} {ga gt : Nat} {tb : Int} {v : Value} {xs : List (Int × Bool)} (hga : ga < w.heap.size) (hs : AT w ga gt tb W v xs) (h : Only w.heap.size W w') :
    ∃ A c B d, v = .slice A xs.length c ∧ Kd.R Lk 38 w' w.heap.size (fun _ => True) v xs ∧ Kp ga w w' ∧ w'.heap[ga]? = some (askObj (.slice B xs.length d)) ∧ Kd.R (Kd.int .u64) 23 w' w.heap.size (fun _ => True) (.slice B xs.length d) (xs.map (·.1)) := by
  obtain ⟨B, k, d, hc, hR, _⟩ := hs.ask
  have h2 := Kd.R_step hs.hl (fun k hk _ => h.block k hk.2.1 hk.1)
  have h3 := Kd.R_step hR (fun k hk _ => h.block k hk.2.1 hk.1)
  obtain ⟨A, c, e, _, hC⟩ := Kd.R_reads h2
  obtain ⟨hk, _, hC3⟩ := Kd.R_reads' h3
  rw [List.length_map] at hk
  subst hk
  exact ⟨A, c, B, d, e, Kd.R_mono h2 (fun _ _ => trivial), { os := h.os.trans hs.kp.os, tape := h.tape.trans hs.kp.tape, output := h.output.trans hs.kp.output, size := by have := h.size; have := hs.kp.size; omega, block := fun k hk hn => (h.block k (by omega) (by omega)).trans (hs.kp.block k hk hn) }, (h.block ga (by omega) (by omega)).trans hc, Kd.R_mono h3 (fun _ _ => trivial)⟩
theorem R_old {α : Type} {d : Kd α} {e base g i : Nat} {W : World} {v u : Value} {xs : List α} (h : Kd.R d e W base (fun _ => True) v xs) (hg : g < base) : Kd.R d e (W.setCell ⟨g, i, none⟩ u) base (fun _ => True) v xs :=
  Kd.R_mono (R_set_far (Kd.R_bound h) (fun k hk => by have := hk.2.1; omega)) (fun _ _ => trivial)
theorem asks_stored {w7 W8 : World} {ga gt base : Nat} {tb m : Int} {o : Bool} {vl va : Value} {xs : List (Int × Bool)} (hgt : gt < ga) (hbs : ga + 1 < base) (hT : w7.heap[gt]? = some (.cells #[.int .u64 tb] 23 (0, 0))) (hA : w7.heap[ga]? = some (askObj va)) (h9 : w7.heap[ga + 1]? = some (foundObj 0 false (.slice none 0 0)))
    (hRL : Kd.R Lk 38 w7 base (fun _ => True) vl xs) (hRA : Kd.R (Kd.int .u64) 23 w7 base (fun _ => True) va (xs.map (·.1)))
    (hW : W8 = ((w7.setCell ⟨ga + 1, 0, none⟩ (.int .u64 m)).setCell ⟨ga + 1, 1, none⟩ (.bool o)).setCell ⟨ga + 1, 2, none⟩ vl) :
    W8.heap[gt]? = some (.cells #[.int .u64 tb] 23 (0, 0)) ∧ W8.heap[ga]? = some (askObj va) ∧ W8.heap[ga + 1]? = some (foundObj m o vl) ∧ Kd.R Lk 38 W8 base (fun _ => True) vl xs ∧ Kd.R (Kd.int .u64) 23 W8 base (fun _ => True) va (xs.map (·.1)) ∧ Below ga w7 W8 := by
  subst hW
  have far : ∀ (w : World) (k i : Nat) (u : Value), k ≠ ga + 1 → (w.setCell ⟨ga + 1, i, none⟩ u).heap[k]? = w.heap[k]? := fun w k i u hk => Below.heap_setCell _ _ _ _ hk
  have bel : ∀ (w : World) (i : Nat) (u : Value), Below ga w (w.setCell ⟨ga + 1, i, none⟩ u) := fun w i u => (Below.refl ga w).setCell (by show ga ≤ ga + 1; omega) _
  refine ⟨?_, ?_, found_set3 h9 m o vl, R_old (R_old (R_old hRL hbs) hbs) hbs, R_old (R_old (R_old hRA hbs) hbs) hbs, ((bel _ _ _).trans (bel _ _ _)).trans (bel _ _ _)⟩
  · rw [far _ _ _ _ (by omega), far _ _ _ _ (by omega), far _ _ _ _ (by omega)]; exact hT
  · rw [far _ _ _ _ (by omega), far _ _ _ _ (by omega), far _ _ _ _ (by omega)]; exact hA
def tabA16 : Bool × List (List Nat × List Nat) := (true, [([], []), ([0], [0]), ([], []), ([1, 2], [1, 2]), ([3], [3]), ([], []), ([], []), ([5, 6], [5, 6]), ([7], [7]), ([], []), ([], []), ([], []), ([10, 11], [10, 11]), ([12], [12]), ([9, 13], [9, 13]), ([8, 14], [8, 14]), ([4, 15], [4, 15])])
theorem tabA16_ok : rtab .any (opsOf Try.f10 16) = tabA16 := by kernel_rfl
set_option maxHeartbeats 1600000 in
set_option maxRecDepth 100000 in
theorem sasks_any (A : Option Addr) (n c : Nat) (l : List Int) (tb : Int) (each : Bool) (w : World) (hr : RdM w A n l) (hl : ∀ x ∈ l, 0 ≤ x) (ht : 0 ≤ tb) :
    Calls Try.prog 10 #[.slice A n c, .int .u64 tb, .bool each] w fun e w' => e = .returned (.bool true) ∧ Below w.heap.size w w' := by
  obtain rfl := C_len hr
  have HB := Aside0.mk (below_alloc (Below.refl w.heap.size w) (.cells #[.int .u64 tb] 23))
  have HR := Aside0.mk hr
  have HT := Aside0.mk (show (w.alloc (.cells #[.int .u64 tb] 23)).heap[w.heap.size]? = some (.cells #[.int .u64 tb] 23 (0, 0)) from blk_new w _)
  clear hr
  have hmf : ∀ (fn : Fn) (first cap : Array Value) (w : World), (Instr.makeFunc fn first cap).run Try.prog w = .ok (.func fn first cap) w := fun _ _ _ _ => rfl
  by_cases hn : l.length ≤ 100
  case neg =>
    have f1 : decide ((100 : Int) < (l.length : Int)) = true := decide_eq_true (by omega)
    go_enter Try.func10, Try.ntmps10
    go_wp2_with (go_at_call 11; refine (awake_any _).mono ?_; rintro e w1 ⟨rfl, hb⟩; replace HB := Aside0.mk (HB.out.trans (hb.mono HB.out.size)); clear hb)
    go_ret
    exact ⟨rfl, HB.out⟩
  have f1 : decide ((100 : Int) < (l.length : Int)) = false := decide_eq_false (by omega)
  have hn2 : l.length ≤ 100000 := by omega
  cases each with
  | true =>
    obtain ⟨F, hF⟩ : ∃ F, F = eachS l (badT tb) := ⟨_, rfl⟩
    have htru : Tru l (badT tb) F.l := by rw [hF]; exact tru_each l (badT tb)
    have HF := Aside0.mk hF.symm
    clear hF
    go_enter Try.func10, Try.ntmps10
    go_wp2_with (first
      | (go_at_call 11; go_must (refine (awake_any _).mono ?_; rintro e w1 ⟨rfl, hb⟩; replace HT := Aside0.mk (blk_below HT.out hb); have HR1 := Aside0.mk (Kd.C_below (Kd.C_below HR.out (below_alloc (Below.refl _ _) (.cells #[.int .u64 tb] 23))) hb); replace HB := Aside0.mk (HB.out.trans (hb.mono HB.out.size)); clear hb; obtain ⟨hka0, hk90, hb30⟩ := two_new (w := w1) (o1 := .cells #[.slice none 0 0] 22) (o2 := .cells #[.int .u64 0, .bool false, .slice none 0 0] 31) (Below.refl _ _); have hgt1 := blk_lt HT.out; have hga3 := blk_lt hka0; have hg93 := blk_lt hk90; have hT3 := Aside0.mk (blk_below HT.out hb30); have hgt3 := blk_lt hT3.out; have hne3 : w.heap.size ≠ w1.heap.size := (by omega); have hka := Aside0.mk hka0; have hk9 := Aside0.mk hk90; have hb3 := Aside0.mk hb30; clear hka0 hk90 hb30))
      | (go_at_call 19; go_must (refine (each_any _ _ _ l _ _ (badT tb) _ (Kd.C_below HR1.out hb3.out) hl hn2 (asks_keep (ga := w1.heap.size) (gt := w.heap.size) (Kd.C_below HR1.out hb3.out) (fun W hk => rd_kp HR1.out hb3.out (Nat.le_refl _) hk) hka.out hgt3 hne3 ht (blk_cell hT3.out 0))).mono ?_; rintro e w7 ⟨v7, W7, rfl, hs, ho⟩; obtain ⟨A7, c7, B7, d7, rfl, hRL, hkp, hca, hRA⟩ := hs.after2 hga3 ho; rw [HF.out] at hRL hca hRA ⊢; have h9 := (hkp.block (w1.heap.size + 1) hg93 (by omega)).trans hk9.out; have HKP := Aside0.mk hkp; have HCA := Aside0.mk hca; have HRL := Aside0.mk hRL; have HRA := Aside0.mk hRA; have H9 := Aside0.mk h9; have y0 := blk_cell h9 0; have y1 := blk_cell h9 1; have y2 := blk_cell h9 2; have yz0 := blk_frozen h9 0; have yz1 := blk_frozen h9 1; have yz2 := blk_frozen h9 2; have x0 := blk_cell hca 0; clear hs ho hRL hkp hca hRA h9)))
    obtain ⟨W8, hW8⟩ : ∃ W8, W8 = ((w7.setCell ⟨w1.heap.size + 1, 0, none⟩ (.int .u64 F.m)).setCell ⟨w1.heap.size + 1, 1, none⟩ (.bool F.ok)).setCell ⟨w1.heap.size + 1, 2, none⟩ (.slice A7 F.l.length c7) := ⟨_, rfl⟩
    rw [← hW8]
    obtain ⟨kT, kA, k9, kRL, kRA, kb⟩ := asks_stored hgt1 hg93 ((HKP.out.block _ hgt3 hne3).trans hT3.out) HCA.out H9.out HRL.out HRA.out hW8
    have hs1 := HB.out.size
    have hs3 := hb3.out.size
    have hb7 : Below w.heap.size w1 W8 := ((hb3.out.mono hs1).trans { os := HKP.out.os, tape := HKP.out.tape, output := HKP.out.output, size := HKP.out.size, block := fun k hk => HKP.out.block k (by omega) (by omega) }).trans (kb.mono hs1)
    replace HB := Aside0.mk (HB.out.trans hb7)
    obtain ⟨_, _, hrl⟩ := Kd.R_reads' kRL
    obtain ⟨hlen, _, hra⟩ := Kd.R_reads' kRA
    rw [← hlen] at hra
    have hmx := C_max hrl
    have HL := Aside0.mk hrl
    have HA := Aside0.mk hra
    have d9 := Aside0.mk (show W8.cell? ⟨w1.heap.size + 1, 2, none⟩ = some (.slice A7 F.l.length c7) from blk_cell k9 2)
    have dA := Aside0.mk (show W8.cell? ⟨w1.heap.size, 0, none⟩ = some (.slice B7 F.l.length d7) from blk_cell kA 0)
    have dT := Aside0.mk (show W8.cell? ⟨w.heap.size, 0, none⟩ = some (.int .u64 tb) from blk_cell kT 0)
    clear kT kA k9 kRL kRA kb hb7 hrl hra hlen hW8 y0 y1 y2 yz0 yz1 yz2 x0 hT3 hka hk9 hb3 HKP HCA HRL HRA H9 HT hga3 hg93 hgt3 hne3 hgt1
    go_loopg [10] F.l.length (fun gk v10 w' => ∃ i : Nat, v10 = .int .i64 (i : Int) ∧ i + gk = F.l.length ∧ Aside0 (Below W8.heap.size W8 w'))
    case atStart => exact ⟨0, rfl, by omega, ⟨Below.refl _ _⟩⟩
    case round =>
      obtain ⟨i, rfl, hig, HW⟩ := hrel
      by_cases hgo : i < F.l.length
      · obtain ⟨a1, rfl, hc1⟩ := C_flat HL.out (0, false) i hgo
        obtain ⟨a2, rfl, hc2⟩ := C_at HA.out i hgo
        obtain ⟨x, hx⟩ : ∃ x, x = F.l.getD i (0, false) := ⟨_, rfl⟩
        obtain ⟨pm, pb⟩ := x
        have hget : F.l[i]? = some (pm, pb) := by
          rw [List.getElem?_eq_getElem hgo]; congr 1; rw [hx, List.getD_eq_getElem?_getD, List.getElem?_eq_getElem hgo]; rfl
        have hmem := htru _ (List.mem_of_getElem? hget)
        obtain ⟨hpl, hpb⟩ := hmem
        have hpm : 0 ≤ pm := hl pm hpl
        obtain rfl : pb = badT tb pm := hpb
        have e20 : nth (F.l.map (·.1)) i = pm := by
          unfold nth; rw [List.getD_eq_getElem?_getD, List.getElem?_map, hget]; rfl
        rw [e20] at hc2
        rw [← hx] at hc1
        have hi0 : (0 : Int) ≤ (i : Int) := by omega
        have hi1 : (i : Int) < (F.l.length : Int) := by omega
        have d10 := Aside0.mk (hc1 0 _ rfl)
        have d11 := Aside0.mk ((add_next a1 (i * 2)) ▸ hc1 1 _ rfl)
        have d20 := Aside0.mk hc2
        have xA := pw_cell_below HW.out dA.out
        clear hc1 hc2 hx hget hpl e20
        go_wp2_with (fail)
        refine start_ (n := 17) (S := fun w' => w'.cell? ⟨w1.heap.size + 1, 2, none⟩ = some (.slice (some a1) F.l.length c7) ∧ w'.cell? ⟨w1.heap.size, 0, none⟩ = some (.slice (some a2) F.l.length d7) ∧ w'.cell? ⟨w.heap.size, 0, none⟩ = some (.int .u64 tb) ∧ w'.cell? (a1.add (i * 2)) = some (.int .u64 pm) ∧ w'.cell? ⟨(a1.add (i * 2)).block, (a1.add (i * 2)).off + 1, none⟩ = some (.bool (badT tb pm)) ∧ w'.cell? (a2.add i) = some (.int .u64 pm)) (ds := []) #[false, false, false, false, false, false, false, false, false, false, false, false, false, false, false, false, false] (by kernel_rfl) rfl rfl ⟨pw_cell_below (below_drew HW.out) d9.out, pw_cell_below (below_drew HW.out) dA.out, pw_cell_below (below_drew HW.out) dT.out, pw_cell_below (below_drew HW.out) d10.out, pw_cell_below (below_drew HW.out) d11.out, pw_cell_below (below_drew HW.out) d20.out⟩ (fun hHeld => ?_); refine with_tab tabA16_ok (fun HT_ => ?_)
        have hb : Below wr.heap.size wr wr.drew := below_drew (Below.refl _ _)
        replace HW := Aside0.mk (HW.out.trans (hb.mono HW.out.size))
        clear hb
        refine pure_ (i := 0) (N := some 37) (v := ?_) (a' := ?_) #[true, false, false, false, false, false, false, false, false, false, false, false, false, false, false, false, false] rfl rfl (any_of HT_.out (by kernel_rfl)) (fun _ _ _ h => h) (Or.inl ⟨by rfl, ?_⟩) ?_ ?_
        rotate_left
        · intro w'
          go_simp
          with_reducible rfl
        rotate_left
        · simp only [Act.put, List.setIfInBounds_toArray, List.set_cons_zero, List.set_cons_succ]
          rfl
        refine take_ (i := 1) (N := some 38) (v := ?_) (a' := ?_) #[true, true, false, false, false, false, false, false, false, false, false, false, false, false, false, false, false] rfl rfl (take_of HT_.out (by kernel_rfl)) (fun _ _ _ h => h) (Or.inl ⟨by rfl, ?_⟩) hHeld ?_ ?_
        rotate_left
        · intro w' hw'
          obtain ⟨s0, s1, s2, s3, s4, s5⟩ := hw'
          go_simp
          with_reducible rfl
        rotate_left
        · simp only [Act.put, List.setIfInBounds_toArray, List.set_cons_zero, List.set_cons_succ]
          rfl
        refine pure_ (i := 2) (N := some 39) (v := ?_) (a' := ?_) #[true, true, true, false, false, false, false, false, false, false, false, false, false, false, false, false, false] rfl rfl (any_of HT_.out (by kernel_rfl)) (fun _ _ _ h => h) (Or.inl ⟨by rfl, ?_⟩) ?_ ?_
        rotate_left
        · intro w'
          go_simp
          with_reducible rfl
        rotate_left
        · simp only [Act.put, List.setIfInBounds_toArray, List.set_cons_zero, List.set_cons_succ]
          rfl
        refine pure_ (i := 3) (N := some 40) (v := ?_) (a' := ?_) #[true, true, true, true, false, false, false, false, false, false, false, false, false, false, false, false, false] rfl rfl (any_of HT_.out (by kernel_rfl)) (fun _ _ _ h => h) (Or.inl ⟨by rfl, ?_⟩) ?_ ?_
        rotate_left
        · intro w'
          go_simp
          with_reducible rfl
        rotate_left
        · simp only [Act.put, List.setIfInBounds_toArray, List.set_cons_zero, List.set_cons_succ]
          rfl
        refine take_ (i := 4) (N := some 41) (v := ?_) (a' := ?_) #[true, true, true, true, true, false, false, false, false, false, false, false, false, false, false, false, false] rfl rfl (take_of HT_.out (by kernel_rfl)) (fun _ _ _ h => h) (Or.inl ⟨by rfl, ?_⟩) hHeld ?_ ?_
        rotate_left
        · intro w' hw'
          obtain ⟨s0, s1, s2, s3, s4, s5⟩ := hw'
          go_simp
          with_reducible rfl
        rotate_left
        · simp only [Act.put, List.setIfInBounds_toArray, List.set_cons_zero, List.set_cons_succ]
          rfl
        refine take_ (i := 5) (N := some 42) (v := ?_) (a' := ?_) #[true, true, true, true, true, true, false, false, false, false, false, false, false, false, false, false, false] rfl rfl (take_of HT_.out (by kernel_rfl)) (fun _ _ _ h => h) (Or.inl ⟨by rfl, ?_⟩) hHeld ?_ ?_
        rotate_left
        · intro w' hw'
          obtain ⟨s0, s1, s2, s3, s4, s5⟩ := hw'
          go_simp
          with_reducible rfl
        rotate_left
        · simp only [Act.put, List.setIfInBounds_toArray, List.set_cons_zero, List.set_cons_succ]
          rfl
        refine pure_ (i := 6) (N := some 43) (v := ?_) (a' := ?_) #[true, true, true, true, true, true, true, false, false, false, false, false, false, false, false, false, false] rfl rfl (any_of HT_.out (by kernel_rfl)) (fun _ _ _ h => h) (Or.inl ⟨by rfl, ?_⟩) ?_ ?_
        rotate_left
        · intro w'
          go_simp
          with_reducible rfl
        rotate_left
        · simp only [Act.put, List.setIfInBounds_toArray, List.set_cons_zero, List.set_cons_succ]
          rfl
        refine pure_ (i := 7) (N := some 44) (v := ?_) (a' := ?_) #[true, true, true, true, true, true, true, true, false, false, false, false, false, false, false, false, false] rfl rfl (any_of HT_.out (by kernel_rfl)) (fun _ _ _ h => h) (Or.inl ⟨by rfl, ?_⟩) ?_ ?_
        rotate_left
        · intro w'
          go_simp
          with_reducible rfl
        rotate_left
        · simp only [Act.put, List.setIfInBounds_toArray, List.set_cons_zero, List.set_cons_succ]
          rfl
        refine take_ (i := 8) (N := some 45) (v := ?_) (a' := ?_) #[true, true, true, true, true, true, true, true, true, false, false, false, false, false, false, false, false] rfl rfl (take_of HT_.out (by kernel_rfl)) (fun _ _ _ h => h) (Or.inl ⟨by rfl, ?_⟩) hHeld ?_ ?_
        rotate_left
        · intro w' hw'
          obtain ⟨s0, s1, s2, s3, s4, s5⟩ := hw'
          go_simp
          with_reducible rfl
        rotate_left
        · simp only [Act.put, List.setIfInBounds_toArray, List.set_cons_zero, List.set_cons_succ]
          rfl
        refine take_ (i := 9) (N := some 46) (v := ?_) (a' := ?_) #[true, true, true, true, true, true, true, true, true, true, false, false, false, false, false, false, false] rfl rfl (take_of HT_.out (by kernel_rfl)) (fun _ _ _ h => h) (Or.inl ⟨by rfl, ?_⟩) hHeld ?_ ?_
        rotate_left
        · intro w' hw'
          obtain ⟨s0, s1, s2, s3, s4, s5⟩ := hw'
          go_simp
          with_reducible rfl
        rotate_left
        · simp only [Act.put, List.setIfInBounds_toArray, List.set_cons_zero, List.set_cons_succ]
          rfl
        refine take_ (i := 10) (N := some 47) (v := ?_) (a' := ?_) #[true, true, true, true, true, true, true, true, true, true, true, false, false, false, false, false, false] rfl rfl (take_of HT_.out (by kernel_rfl)) (fun _ _ _ h => h) (Or.inl ⟨by rfl, ?_⟩) hHeld ?_ ?_
        rotate_left
        · intro w' hw'
          obtain ⟨s0, s1, s2, s3, s4, s5⟩ := hw'
          go_simp
          with_reducible rfl
        rotate_left
        · simp only [Act.put, List.setIfInBounds_toArray, List.set_cons_zero, List.set_cons_succ]
          rfl
        refine pure_ (i := 11) (N := some 48) (v := ?_) (a' := ?_) #[true, true, true, true, true, true, true, true, true, true, true, true, false, false, false, false, false] rfl rfl (any_of HT_.out (by kernel_rfl)) (fun _ _ _ h => h) (Or.inl ⟨by rfl, ?_⟩) ?_ ?_
        rotate_left
        · intro w'
          go_simp
          with_reducible rfl
        rotate_left
        · simp only [Act.put, List.setIfInBounds_toArray, List.set_cons_zero, List.set_cons_succ]
          rfl
        refine pure_ (i := 12) (N := some 49) (v := ?_) (a' := ?_) #[true, true, true, true, true, true, true, true, true, true, true, true, true, false, false, false, false] rfl rfl (any_of HT_.out (by kernel_rfl)) (fun _ _ _ h => h) (Or.inl ⟨by rfl, ?_⟩) ?_ ?_
        rotate_left
        · intro w'
          go_simp
          with_reducible rfl
        rotate_left
        · simp only [Act.put, List.setIfInBounds_toArray, List.set_cons_zero, List.set_cons_succ]
          rfl
        refine take_ (i := 13) (N := some 50) (v := ?_) (a' := ?_) #[true, true, true, true, true, true, true, true, true, true, true, true, true, true, false, false, false] rfl rfl (take_of HT_.out (by kernel_rfl)) (fun _ _ _ h => h) (Or.inl ⟨by rfl, ?_⟩) hHeld ?_ ?_
        rotate_left
        · intro w' hw'
          obtain ⟨s0, s1, s2, s3, s4, s5⟩ := hw'
          go_simp
          with_reducible rfl
        rotate_left
        · simp only [Act.put, List.setIfInBounds_toArray, List.set_cons_zero, List.set_cons_succ]
          rfl
        refine one_ (i := 14) (N := some 51) #[true, true, true, true, true, true, true, true, true, true, true, true, true, true, true, false, false] rfl rfl (one_of HT_.out (by kernel_rfl)) (by decide) (fun Kq_ hK_ => ?_)
        refine goes_ Try.func17 (by kernel_rfl) rfl #[.int .u64 tb, .int .u64 pm] (by rfl) rfl rfl (by (try simp only [List.map_toArray, List.map_cons, List.map_nil]); first | done | rfl) ?_
        with_reducible refine (bad_any tb pm _ ht hpm).mono ?_
        rintro e w' ⟨rfl, rfl⟩
        refine ⟨_, rfl, ?_⟩
        refine hK_.out _ _ ⟨pw_cell_below HW.out d9.out, pw_cell_below HW.out dA.out, pw_cell_below HW.out dT.out, pw_cell_below HW.out d10.out, pw_cell_below HW.out d11.out, pw_cell_below HW.out d20.out⟩ (fun hHeld => ?_)
        clear hK_ Kq_
        refine norm_ (a' := ?_) ?_ ?_
        rotate_left
        · show Act.put _ (some 51) _ = _
          simp only [Act.put, List.setIfInBounds_toArray, List.set_cons_zero, List.set_cons_succ]
          rfl
        refine pure_ (i := 15) (N := some 52) (v := ?_) (a' := ?_) #[true, true, true, true, true, true, true, true, true, true, true, true, true, true, true, true, false] rfl rfl (any_of HT_.out (by kernel_rfl)) (fun _ _ _ h => h) (Or.inl ⟨by rfl, ?_⟩) ?_ ?_
        rotate_left
        · intro w'
          go_simp
          with_reducible rfl
        rotate_left
        · simp only [Act.put, List.setIfInBounds_toArray, List.set_cons_zero, List.set_cons_succ]
          rfl
        refine pure_ (i := 16) (N := some 53) (v := ?_) (a' := ?_) #[true, true, true, true, true, true, true, true, true, true, true, true, true, true, true, true, true] rfl rfl (any_of HT_.out (by kernel_rfl)) (fun _ _ _ h => h) (Or.inl ⟨by rfl, ?_⟩) ?_ ?_
        rotate_left
        · intro w'
          go_simp
          with_reducible rfl
        rotate_left
        · simp only [Act.put, List.setIfInBounds_toArray, List.set_cons_zero, List.set_cons_succ]
          rfl
        refine done_ (done_of HT_.out (by kernel_rfl)) ?_
        clear HT_ hHeld xA
        go_wp2
        go_roundg (gk - 1)
        case measure => omega
        case rel => exact ⟨i + 1, by go_num, by omega, HW⟩
      · obtain rfl : i = F.l.length := by omega
        have xA := pw_cell_below HW.out dA.out
        go_wp2
        go_ret
        exact ⟨rfl, HB.out.trans (HW.out.mono HB.out.size)⟩
  | false =>
    obtain ⟨F, hF⟩ : ∃ F, F = lastS l (badT tb) := ⟨_, rfl⟩
    have htru : Tru l (badT tb) F.l := by rw [hF]; exact tru_last l (badT tb)
    have HF := Aside0.mk hF.symm
    clear hF
    go_enter Try.func10, Try.ntmps10
    go_wp2_with (first
      | (go_at_call 11; go_must (refine (awake_any _).mono ?_; rintro e w1 ⟨rfl, hb⟩; replace HT := Aside0.mk (blk_below HT.out hb); have HR1 := Aside0.mk (Kd.C_below (Kd.C_below HR.out (below_alloc (Below.refl _ _) (.cells #[.int .u64 tb] 23))) hb); replace HB := Aside0.mk (HB.out.trans (hb.mono HB.out.size)); clear hb; obtain ⟨hka0, hk90, hb30⟩ := two_new (w := w1) (o1 := .cells #[.slice none 0 0] 22) (o2 := .cells #[.int .u64 0, .bool false, .slice none 0 0] 31) (Below.refl _ _); have hgt1 := blk_lt HT.out; have hga3 := blk_lt hka0; have hg93 := blk_lt hk90; have hT3 := Aside0.mk (blk_below HT.out hb30); have hgt3 := blk_lt hT3.out; have hne3 : w.heap.size ≠ w1.heap.size := (by omega); have hka := Aside0.mk hka0; have hk9 := Aside0.mk hk90; have hb3 := Aside0.mk hb30; clear hka0 hk90 hb30))
      | (go_at_call 14; go_must (refine (last_any _ _ _ l _ _ (badT tb) _ (Kd.C_below HR1.out hb3.out) hl hn2 (asks_keep (ga := w1.heap.size) (gt := w.heap.size) (Kd.C_below HR1.out hb3.out) (fun W hk => rd_kp HR1.out hb3.out (Nat.le_refl _) hk) hka.out hgt3 hne3 ht (blk_cell hT3.out 0))).mono ?_; rintro e w7 ⟨v7, W7, rfl, hs, ho⟩; obtain ⟨A7, c7, B7, d7, rfl, hRL, hkp, hca, hRA⟩ := hs.after2 hga3 ho; rw [HF.out] at hRL hca hRA ⊢; have h9 := (hkp.block (w1.heap.size + 1) hg93 (by omega)).trans hk9.out; have HKP := Aside0.mk hkp; have HCA := Aside0.mk hca; have HRL := Aside0.mk hRL; have HRA := Aside0.mk hRA; have H9 := Aside0.mk h9; have y0 := blk_cell h9 0; have y1 := blk_cell h9 1; have y2 := blk_cell h9 2; have yz0 := blk_frozen h9 0; have yz1 := blk_frozen h9 1; have yz2 := blk_frozen h9 2; have x0 := blk_cell hca 0; clear hs ho hRL hkp hca hRA h9)))
    obtain ⟨W8, hW8⟩ : ∃ W8, W8 = ((w7.setCell ⟨w1.heap.size + 1, 0, none⟩ (.int .u64 F.m)).setCell ⟨w1.heap.size + 1, 1, none⟩ (.bool F.ok)).setCell ⟨w1.heap.size + 1, 2, none⟩ (.slice A7 F.l.length c7) := ⟨_, rfl⟩
    rw [← hW8]
    obtain ⟨kT, kA, k9, kRL, kRA, kb⟩ := asks_stored hgt1 hg93 ((HKP.out.block _ hgt3 hne3).trans hT3.out) HCA.out H9.out HRL.out HRA.out hW8
    have hs1 := HB.out.size
    have hs3 := hb3.out.size
    have hb7 : Below w.heap.size w1 W8 := ((hb3.out.mono hs1).trans { os := HKP.out.os, tape := HKP.out.tape, output := HKP.out.output, size := HKP.out.size, block := fun k hk => HKP.out.block k (by omega) (by omega) }).trans (kb.mono hs1)
    replace HB := Aside0.mk (HB.out.trans hb7)
    obtain ⟨_, _, hrl⟩ := Kd.R_reads' kRL
    obtain ⟨hlen, _, hra⟩ := Kd.R_reads' kRA
    rw [← hlen] at hra
    have hmx := C_max hrl
    have HL := Aside0.mk hrl
    have HA := Aside0.mk hra
    have d9 := Aside0.mk (show W8.cell? ⟨w1.heap.size + 1, 2, none⟩ = some (.slice A7 F.l.length c7) from blk_cell k9 2)
    have dA := Aside0.mk (show W8.cell? ⟨w1.heap.size, 0, none⟩ = some (.slice B7 F.l.length d7) from blk_cell kA 0)
    have dT := Aside0.mk (show W8.cell? ⟨w.heap.size, 0, none⟩ = some (.int .u64 tb) from blk_cell kT 0)
    clear kT kA k9 kRL kRA kb hb7 hrl hra hlen hW8 y0 y1 y2 yz0 yz1 yz2 x0 hT3 hka hk9 hb3 HKP HCA HRL HRA H9 HT hga3 hg93 hgt3 hne3 hgt1
    go_loopg [10] F.l.length (fun gk v10 w' => ∃ i : Nat, v10 = .int .i64 (i : Int) ∧ i + gk = F.l.length ∧ Aside0 (Below W8.heap.size W8 w'))
    case atStart => exact ⟨0, rfl, by omega, ⟨Below.refl _ _⟩⟩
    case round =>
      obtain ⟨i, rfl, hig, HW⟩ := hrel
      by_cases hgo : i < F.l.length
      · obtain ⟨a1, rfl, hc1⟩ := C_flat HL.out (0, false) i hgo
        obtain ⟨a2, rfl, hc2⟩ := C_at HA.out i hgo
        obtain ⟨x, hx⟩ : ∃ x, x = F.l.getD i (0, false) := ⟨_, rfl⟩
        obtain ⟨pm, pb⟩ := x
        have hget : F.l[i]? = some (pm, pb) := by
          rw [List.getElem?_eq_getElem hgo]; congr 1; rw [hx, List.getD_eq_getElem?_getD, List.getElem?_eq_getElem hgo]; rfl
        have hmem := htru _ (List.mem_of_getElem? hget)
        obtain ⟨hpl, hpb⟩ := hmem
        have hpm : 0 ≤ pm := hl pm hpl
        obtain rfl : pb = badT tb pm := hpb
        have e20 : nth (F.l.map (·.1)) i = pm := by
          unfold nth; rw [List.getD_eq_getElem?_getD, List.getElem?_map, hget]; rfl
        rw [e20] at hc2
        rw [← hx] at hc1
        have hi0 : (0 : Int) ≤ (i : Int) := by omega
        have hi1 : (i : Int) < (F.l.length : Int) := by omega
        have d10 := Aside0.mk (hc1 0 _ rfl)
        have d11 := Aside0.mk ((add_next a1 (i * 2)) ▸ hc1 1 _ rfl)
        have d20 := Aside0.mk hc2
        have xA := pw_cell_below HW.out dA.out
        clear hc1 hc2 hx hget hpl e20
        go_wp2_with (fail)
        refine start_ (n := 17) (S := fun w' => w'.cell? ⟨w1.heap.size + 1, 2, none⟩ = some (.slice (some a1) F.l.length c7) ∧ w'.cell? ⟨w1.heap.size, 0, none⟩ = some (.slice (some a2) F.l.length d7) ∧ w'.cell? ⟨w.heap.size, 0, none⟩ = some (.int .u64 tb) ∧ w'.cell? (a1.add (i * 2)) = some (.int .u64 pm) ∧ w'.cell? ⟨(a1.add (i * 2)).block, (a1.add (i * 2)).off + 1, none⟩ = some (.bool (badT tb pm)) ∧ w'.cell? (a2.add i) = some (.int .u64 pm)) (ds := []) #[false, false, false, false, false, false, false, false, false, false, false, false, false, false, false, false, false] (by kernel_rfl) rfl rfl ⟨pw_cell_below (below_drew HW.out) d9.out, pw_cell_below (below_drew HW.out) dA.out, pw_cell_below (below_drew HW.out) dT.out, pw_cell_below (below_drew HW.out) d10.out, pw_cell_below (below_drew HW.out) d11.out, pw_cell_below (below_drew HW.out) d20.out⟩ (fun hHeld => ?_); refine with_tab tabA16_ok (fun HT_ => ?_)
        have hb : Below wr.heap.size wr wr.drew := below_drew (Below.refl _ _)
        replace HW := Aside0.mk (HW.out.trans (hb.mono HW.out.size))
        clear hb
        refine pure_ (i := 0) (N := some 37) (v := ?_) (a' := ?_) #[true, false, false, false, false, false, false, false, false, false, false, false, false, false, false, false, false] rfl rfl (any_of HT_.out (by kernel_rfl)) (fun _ _ _ h => h) (Or.inl ⟨by rfl, ?_⟩) ?_ ?_
        rotate_left
        · intro w'
          go_simp
          with_reducible rfl
        rotate_left
        · simp only [Act.put, List.setIfInBounds_toArray, List.set_cons_zero, List.set_cons_succ]
          rfl
        refine take_ (i := 1) (N := some 38) (v := ?_) (a' := ?_) #[true, true, false, false, false, false, false, false, false, false, false, false, false, false, false, false, false] rfl rfl (take_of HT_.out (by kernel_rfl)) (fun _ _ _ h => h) (Or.inl ⟨by rfl, ?_⟩) hHeld ?_ ?_
        rotate_left
        · intro w' hw'
          obtain ⟨s0, s1, s2, s3, s4, s5⟩ := hw'
          go_simp
          with_reducible rfl
        rotate_left
        · simp only [Act.put, List.setIfInBounds_toArray, List.set_cons_zero, List.set_cons_succ]
          rfl
        refine pure_ (i := 2) (N := some 39) (v := ?_) (a' := ?_) #[true, true, true, false, false, false, false, false, false, false, false, false, false, false, false, false, false] rfl rfl (any_of HT_.out (by kernel_rfl)) (fun _ _ _ h => h) (Or.inl ⟨by rfl, ?_⟩) ?_ ?_
        rotate_left
        · intro w'
          go_simp
          with_reducible rfl
        rotate_left
        · simp only [Act.put, List.setIfInBounds_toArray, List.set_cons_zero, List.set_cons_succ]
          rfl
        refine pure_ (i := 3) (N := some 40) (v := ?_) (a' := ?_) #[true, true, true, true, false, false, false, false, false, false, false, false, false, false, false, false, false] rfl rfl (any_of HT_.out (by kernel_rfl)) (fun _ _ _ h => h) (Or.inl ⟨by rfl, ?_⟩) ?_ ?_
        rotate_left
        · intro w'
          go_simp
          with_reducible rfl
        rotate_left
        · simp only [Act.put, List.setIfInBounds_toArray, List.set_cons_zero, List.set_cons_succ]
          rfl
        refine take_ (i := 4) (N := some 41) (v := ?_) (a' := ?_) #[true, true, true, true, true, false, false, false, false, false, false, false, false, false, false, false, false] rfl rfl (take_of HT_.out (by kernel_rfl)) (fun _ _ _ h => h) (Or.inl ⟨by rfl, ?_⟩) hHeld ?_ ?_
        rotate_left
        · intro w' hw'
          obtain ⟨s0, s1, s2, s3, s4, s5⟩ := hw'
          go_simp
          with_reducible rfl
        rotate_left
        · simp only [Act.put, List.setIfInBounds_toArray, List.set_cons_zero, List.set_cons_succ]
          rfl
        refine take_ (i := 5) (N := some 42) (v := ?_) (a' := ?_) #[true, true, true, true, true, true, false, false, false, false, false, false, false, false, false, false, false] rfl rfl (take_of HT_.out (by kernel_rfl)) (fun _ _ _ h => h) (Or.inl ⟨by rfl, ?_⟩) hHeld ?_ ?_
        rotate_left
        · intro w' hw'
          obtain ⟨s0, s1, s2, s3, s4, s5⟩ := hw'
          go_simp
          with_reducible rfl
        rotate_left
        · simp only [Act.put, List.setIfInBounds_toArray, List.set_cons_zero, List.set_cons_succ]
          rfl
        refine pure_ (i := 6) (N := some 43) (v := ?_) (a' := ?_) #[true, true, true, true, true, true, true, false, false, false, false, false, false, false, false, false, false] rfl rfl (any_of HT_.out (by kernel_rfl)) (fun _ _ _ h => h) (Or.inl ⟨by rfl, ?_⟩) ?_ ?_
        rotate_left
        · intro w'
          go_simp
          with_reducible rfl
        rotate_left
        · simp only [Act.put, List.setIfInBounds_toArray, List.set_cons_zero, List.set_cons_succ]
          rfl
        refine pure_ (i := 7) (N := some 44) (v := ?_) (a' := ?_) #[true, true, true, true, true, true, true, true, false, false, false, false, false, false, false, false, false] rfl rfl (any_of HT_.out (by kernel_rfl)) (fun _ _ _ h => h) (Or.inl ⟨by rfl, ?_⟩) ?_ ?_
        rotate_left
        · intro w'
          go_simp
          with_reducible rfl
        rotate_left
        · simp only [Act.put, List.setIfInBounds_toArray, List.set_cons_zero, List.set_cons_succ]
          rfl
        refine take_ (i := 8) (N := some 45) (v := ?_) (a' := ?_) #[true, true, true, true, true, true, true, true, true, false, false, false, false, false, false, false, false] rfl rfl (take_of HT_.out (by kernel_rfl)) (fun _ _ _ h => h) (Or.inl ⟨by rfl, ?_⟩) hHeld ?_ ?_
        rotate_left
        · intro w' hw'
          obtain ⟨s0, s1, s2, s3, s4, s5⟩ := hw'
          go_simp
          with_reducible rfl
        rotate_left
        · simp only [Act.put, List.setIfInBounds_toArray, List.set_cons_zero, List.set_cons_succ]
          rfl
        refine take_ (i := 9) (N := some 46) (v := ?_) (a' := ?_) #[true, true, true, true, true, true, true, true, true, true, false, false, false, false, false, false, false] rfl rfl (take_of HT_.out (by kernel_rfl)) (fun _ _ _ h => h) (Or.inl ⟨by rfl, ?_⟩) hHeld ?_ ?_
        rotate_left
        · intro w' hw'
          obtain ⟨s0, s1, s2, s3, s4, s5⟩ := hw'
          go_simp
          with_reducible rfl
        rotate_left
        · simp only [Act.put, List.setIfInBounds_toArray, List.set_cons_zero, List.set_cons_succ]
          rfl
        refine take_ (i := 10) (N := some 47) (v := ?_) (a' := ?_) #[true, true, true, true, true, true, true, true, true, true, true, false, false, false, false, false, false] rfl rfl (take_of HT_.out (by kernel_rfl)) (fun _ _ _ h => h) (Or.inl ⟨by rfl, ?_⟩) hHeld ?_ ?_
        rotate_left
        · intro w' hw'
          obtain ⟨s0, s1, s2, s3, s4, s5⟩ := hw'
          go_simp
          with_reducible rfl
        rotate_left
        · simp only [Act.put, List.setIfInBounds_toArray, List.set_cons_zero, List.set_cons_succ]
          rfl
        refine pure_ (i := 11) (N := some 48) (v := ?_) (a' := ?_) #[true, true, true, true, true, true, true, true, true, true, true, true, false, false, false, false, false] rfl rfl (any_of HT_.out (by kernel_rfl)) (fun _ _ _ h => h) (Or.inl ⟨by rfl, ?_⟩) ?_ ?_
        rotate_left
        · intro w'
          go_simp
          with_reducible rfl
        rotate_left
        · simp only [Act.put, List.setIfInBounds_toArray, List.set_cons_zero, List.set_cons_succ]
          rfl
        refine pure_ (i := 12) (N := some 49) (v := ?_) (a' := ?_) #[true, true, true, true, true, true, true, true, true, true, true, true, true, false, false, false, false] rfl rfl (any_of HT_.out (by kernel_rfl)) (fun _ _ _ h => h) (Or.inl ⟨by rfl, ?_⟩) ?_ ?_
        rotate_left
        · intro w'
          go_simp
          with_reducible rfl
        rotate_left
        · simp only [Act.put, List.setIfInBounds_toArray, List.set_cons_zero, List.set_cons_succ]
          rfl
        refine take_ (i := 13) (N := some 50) (v := ?_) (a' := ?_) #[true, true, true, true, true, true, true, true, true, true, true, true, true, true, false, false, false] rfl rfl (take_of HT_.out (by kernel_rfl)) (fun _ _ _ h => h) (Or.inl ⟨by rfl, ?_⟩) hHeld ?_ ?_
        rotate_left
        · intro w' hw'
          obtain ⟨s0, s1, s2, s3, s4, s5⟩ := hw'
          go_simp
          with_reducible rfl
        rotate_left
        · simp only [Act.put, List.setIfInBounds_toArray, List.set_cons_zero, List.set_cons_succ]
          rfl
        refine one_ (i := 14) (N := some 51) #[true, true, true, true, true, true, true, true, true, true, true, true, true, true, true, false, false] rfl rfl (one_of HT_.out (by kernel_rfl)) (by decide) (fun Kq_ hK_ => ?_)
        refine goes_ Try.func17 (by kernel_rfl) rfl #[.int .u64 tb, .int .u64 pm] (by rfl) rfl rfl (by (try simp only [List.map_toArray, List.map_cons, List.map_nil]); first | done | rfl) ?_
        with_reducible refine (bad_any tb pm _ ht hpm).mono ?_
        rintro e w' ⟨rfl, rfl⟩
        refine ⟨_, rfl, ?_⟩
        refine hK_.out _ _ ⟨pw_cell_below HW.out d9.out, pw_cell_below HW.out dA.out, pw_cell_below HW.out dT.out, pw_cell_below HW.out d10.out, pw_cell_below HW.out d11.out, pw_cell_below HW.out d20.out⟩ (fun hHeld => ?_)
        clear hK_ Kq_
        refine norm_ (a' := ?_) ?_ ?_
        rotate_left
        · show Act.put _ (some 51) _ = _
          simp only [Act.put, List.setIfInBounds_toArray, List.set_cons_zero, List.set_cons_succ]
          rfl
        refine pure_ (i := 15) (N := some 52) (v := ?_) (a' := ?_) #[true, true, true, true, true, true, true, true, true, true, true, true, true, true, true, true, false] rfl rfl (any_of HT_.out (by kernel_rfl)) (fun _ _ _ h => h) (Or.inl ⟨by rfl, ?_⟩) ?_ ?_
        rotate_left
        · intro w'
          go_simp
          with_reducible rfl
        rotate_left
        · simp only [Act.put, List.setIfInBounds_toArray, List.set_cons_zero, List.set_cons_succ]
          rfl
        refine pure_ (i := 16) (N := some 53) (v := ?_) (a' := ?_) #[true, true, true, true, true, true, true, true, true, true, true, true, true, true, true, true, true] rfl rfl (any_of HT_.out (by kernel_rfl)) (fun _ _ _ h => h) (Or.inl ⟨by rfl, ?_⟩) ?_ ?_
        rotate_left
        · intro w'
          go_simp
          with_reducible rfl
        rotate_left
        · simp only [Act.put, List.setIfInBounds_toArray, List.set_cons_zero, List.set_cons_succ]
          rfl
        refine done_ (done_of HT_.out (by kernel_rfl)) ?_
        clear HT_ hHeld xA
        go_wp2
        go_roundg (gk - 1)
        case measure => omega
        case rel => exact ⟨i + 1, by go_num, by omega, HW⟩
      · obtain rfl : i = F.l.length := by omega
        have xA := pw_cell_below HW.out dA.out
        go_wp2
        go_ret
        exact ⟨rfl, HB.out.trans (HW.out.mono HB.out.size)⟩
end Go.Proofs.Yteikmlgcmhgaoaa.Search
