/- What Again answers, for the closures of the statements. Conditions stand in each statement. -/
import Derived.Test.YtoojmbifkjocfaaProofUse
namespace Go.Proofs.Ytoojmbifkjocfaa.Proof
open Go.RowKit Go.Proofs.YtoojmbifkjocfaaW.PrintWords Go.Proofs.YtoojmbifkjocfaaW.PrintLast Go.Proofs.YtoojmbifkjocfaaW.PrintMore Go.Proofs.Ytoojmbifkjocfaa.Kit Go.Proofs.Ytoojmbifkjocfaa.Plain
set_option linter.unusedVariables false
set_option linter.unusedSimpArgs false
/-- A call of a closure in a region that draws its order, by its contract. -/
theorem goesV {P : Program} {ops : Array Oper} {Q : Exit → Act → World → Prop} {oi : Oper} {N : Option Tmp} {a : Act} {w : World} {K : Act → World → Prop} {f : FuncId} {fn : Func} {xs : Array Operand} {ts : Array TypeId} (t : Operand) (cap pre : Array Value) (hf : P.funcs[f]? = some fn) (hname : (fn.name == "runtime.NumGoroutine") = false) (hb : fn.body.isSome = true) (args : Array Value)
    (hw : Region.wanted oi (yielded ops a.tmps) = true) (hN : oi.dst = N) (hop : oi.op = .call { callee := .value t, args := xs, argTypes := ts }) (hv : a.eval t = .func (.func f) #[] cap) (hpre : xs.map a.eval = pre) (hargs : pre ++ cap = args)
    (h : Calls P f args w fun e w' => ∃ v, e = .returned v ∧ K (a.put N v) w') : if Region.wanted oi (yielded ops a.tmps) = true then Oper.wp P oi a w K Q else K (a.put N undef) w := by
  refine call_ f args hw hN ?_ h
  have he := enters_ hf hname hb args w
  unfold execOp
  simp [hop, resolve, hv, Deferred.ofValue, invoke, hpre, hargs, he]
def againB (L : List (Int × Bool)) (bad : Int → Bool) : Bool := decide (∀ p ∈ L, p.2 = bad p.1)
def badG (n m : Int) : Bool := decide (n ≤ m)
def badW (a b m : Int) : Bool := decide (a ≤ m ∧ m < b)
def badN (m : Int) : Bool := false
theorem true1_any (n m : Int) (g : Nat) (w : World) (hc : w.cell? ⟨g, 0, none⟩ = some (.int .u64 n)) :
    Calls Try.prog 14 #[.int .u64 m, .pointer (some ⟨g, 0, none⟩)] w fun e w' => e = .returned (.bool (badG n m)) ∧ w = w' := by
  go_enter Try.func14, Try.ntmps14
  go_wp2
  go_ret
  exact ⟨rfl, rfl⟩
theorem search1_any (n m : Int) (g : Nat) (w : World) (hc : w.cell? ⟨g, 0, none⟩ = some (.int .u64 n)) :
    Calls Try.prog 20 #[.int .u64 m, .pointer (some ⟨g, 0, none⟩)] w fun e w' => e = .returned (.bool (badG n m)) ∧ w = w' := by
  go_enter Try.func20, Try.ntmps20
  go_wp2
  go_ret
  exact ⟨rfl, rfl⟩
theorem again1_any (a b m : Int) (g h : Nat) (w : World) (hc : w.cell? ⟨g, 0, none⟩ = some (.int .u64 a)) (hc2 : w.cell? ⟨h, 0, none⟩ = some (.int .u64 b)) :
    Calls Try.prog 16 #[.int .u64 m, .pointer (some ⟨g, 0, none⟩), .pointer (some ⟨h, 0, none⟩)] w fun e w' => e = .returned (.bool (badW a b m)) ∧ w = w' := by
  by_cases h1 : a ≤ m
  · by_cases h2 : m < b
    · have f1 : decide (a ≤ m) = true := decide_eq_true h1
      have f2 : decide (m < b) = true := decide_eq_true h2
      have HR := Aside0.mk (show badW a b m = true from decide_eq_true ⟨h1, h2⟩)
      clear h1 h2
      go_enter Try.func16, Try.ntmps16
      go_wp2
      go_ret
      exact ⟨retB HR.out.symm, rfl⟩
    · have f1 : decide (a ≤ m) = true := decide_eq_true h1
      have f2 : decide (m < b) = false := decide_eq_false h2
      have HR := Aside0.mk (show badW a b m = false from decide_eq_false (fun h => h2 h.2))
      clear h1 h2
      go_enter Try.func16, Try.ntmps16
      go_wp2
      go_ret
      exact ⟨retB HR.out.symm, rfl⟩
  · have f1 : decide (a ≤ m) = false := decide_eq_false h1
    have HR := Aside0.mk (show badW a b m = false from decide_eq_false (fun h => h1 h.1))
    clear h1
    go_enter Try.func16, Try.ntmps16
    go_wp2
    go_ret
    exact ⟨retB HR.out.symm, rfl⟩
def tabG4 : Bool × List (List Nat × List Nat) := (true, [([], []), ([0], [0]), ([], []), ([2], [2]), ([3], [3]), ([4], [4]), ([4], [4]), ([6, 4], [4, 6]), ([5, 7, 4, 4], [4, 5, 7]), ([4, 8], [4, 8]), ([1, 9], [1, 9])])
theorem tabG4_ok : rtab .any (opsOf Try.f15 4) = tabG4 := by kernel_rfl
set_option maxHeartbeats 1600000 in
set_option maxRecDepth 100000 in
theorem again_true (m : Int) (ok : Bool) (A4 : Option Addr) (n4 c4 : Nat) (L : List (Int × Bool)) (w : World) (n : Int) (g : Nat) (hr4 : Kd.C Lk w A4 n4 L) (hL : ∀ p ∈ L, (Lit.int .u64 p.1).wf = true) (hc0 : w.cell? ⟨g, 0, none⟩ = some (.int .u64 n)) :
    Calls Try.prog 15 #[.agg #[.int .u64 m, .bool ok, .slice A4 n4 c4], .func (.func 14) #[] #[.pointer (some ⟨g, 0, none⟩)]] w fun e w' => e = .returned (.bool (againB L (badG n))) ∧ Below w.heap.size w w' := by
  obtain rfl := C_len hr4
  have hmx4 := C_max hr4
  have HR4 := Aside0.mk hr4
  have HWL := Aside0.mk hL
  clear hr4 hL
  have hne : ∀ W : World, (binOp .neq 38 (.func (.func 14) #[] #[.pointer (some ⟨g, 0, none⟩)]) .nilFunc).run Try.prog W = .ok (.bool true) W := fun _ => rfl
  go_enter Try.func15, Try.ntmps15
  go_wp2
  obtain ⟨W1, hW1⟩ : ∃ W1, W1 = w.alloc (.cells #[.int .u64 m, .bool ok, .slice A4 L.length c4] 25) := ⟨_, rfl⟩
  rw [← hW1]
  have HB1 := Aside0.mk (show Below w.heap.size w W1 by rw [hW1]; exact below_alloc (Below.refl _ _) _)
  replace HR4 := Aside0.mk (Kd.C_below HR4.out HB1.out)
  clear hW1
  go_loopg [10] L.length (fun gk v w' => ∃ k : Nat, v = .int .i64 (k : Int) ∧ k + gk = L.length ∧ Aside0 (∀ p ∈ L.take k, p.2 = (badG n) p.1) ∧ Aside0 (Below W1.heap.size W1 w'))
  case atStart => exact ⟨0, rfl, by omega, ⟨fun p hp => by simp at hp⟩, ⟨Below.refl _ _⟩⟩
  case round =>
    obtain ⟨k, rfl, hkg, HP, HB⟩ := hrel
    by_cases hk : k < L.length
    · obtain ⟨a4, rfl, hc1⟩ := C_flat HR4.out (0, false) k hk
      obtain ⟨x, hx⟩ : ∃ x, x = L.getD k (0, false) := ⟨_, rfl⟩
      obtain ⟨pm, pb⟩ := x
      have hget : L[k] = (pm, pb) := by rw [hx, List.getD_eq_getElem?_getD, List.getElem?_eq_getElem hk]; rfl
      rw [← hx] at hc1
      have g0 : wr.cell? (a4.add (k * 2)) = some (.int .u64 pm) := pw_cell_below HB.out (hc1 0 _ rfl)
      have g1 : wr.cell? ⟨(a4.add (k * 2)).block, (a4.add (k * 2)).off + 1, none⟩ = some (.bool pb) := pw_cell_below HB.out ((add_next a4 (k * 2)) ▸ hc1 1 _ rfl)
      have HME := Aside0.mk (show (pm, pb) ∈ L from hget ▸ List.getElem_mem hk)
      have HT := Aside0.mk (show ∀ p, p ∈ L.take (k + 1) ↔ p ∈ L.take k ∨ p = (pm, pb) from fun p => by rw [List.take_succ_eq_append_getElem hk, hget]; simp)
      have hpm0 : 0 ≤ pm := (wf_u64 (HWL.out _ HME.out)).1
      have hk0 : (0 : Int) ≤ (k : Int) := by omega
      have hk1 : (k : Int) < (L.length : Int) := by omega
      clear hc1 hx hget
      by_cases hbn : pb = (badG n) pm
      · have HBN := Aside0.mk hbn
        clear hbn
        go_wp2_with (fail)
        have HBA := Aside0.mk (show Below W1.heap.size W1 (wr.alloc (.cells #[.int .u64 pm, .bool pb] 35)) from HB.out.alloc HB.out.size _)
        have hxx := blk_new wr (.cells #[.int .u64 pm, .bool pb] 35)
        have HY0 := Aside0.mk (blk_cell hxx 0)
        have HY1 := Aside0.mk (blk_cell hxx 1)
        have HF0 := Aside0.mk (pw_cell_below HBA.out (pw_cell_below HB1.out hc0))
        obtain ⟨wx, hwx⟩ : ∃ wx, wx = wr.alloc (.cells #[.int .u64 pm, .bool pb] 35) := ⟨_, rfl⟩
        have HBX := Aside0.mk (show Below wr.heap.size wr wx by rw [hwx]; exact below_alloc (Below.refl _ _) _)
        rw [← hwx] at HY0 HY1 HBA HF0 ⊢
        clear hwx hxx
        refine start_ (n := 11) (S := fun w' => w'.cell? ⟨wr.heap.size, 0, none⟩ = some (.int .u64 pm) ∧ w'.cell? ⟨wr.heap.size, 1, none⟩ = some (.bool pb) ∧ w'.cell? ⟨g, 0, none⟩ = some (.int .u64 n)) (ds := []) #[false, false, false, false, false, false, false, false, false, false, false] (by kernel_rfl) rfl rfl ⟨pw_cell_below (below_drew (Below.refl _ _)) HY0.out, pw_cell_below (below_drew (Below.refl _ _)) HY1.out, pw_cell_below (below_drew (Below.refl _ _)) HF0.out⟩ (fun hHeld => ?_); refine with_tab tabG4_ok (fun HT_ => ?_)
        have hb : Below wx.heap.size wx wx.drew := below_drew (Below.refl _ _)
        have HX := Aside0.mk hb
        clear hb
        refine pure_ (i := 0) (N := some 14) (v := ?_) (a' := ?_) #[true, false, false, false, false, false, false, false, false, false, false] rfl rfl (any_of HT_.out (by kernel_rfl)) (fun _ _ _ h => h) (Or.inl ⟨by rfl, ?_⟩) ?_ ?_
        rotate_left
        · intro w'
          go_simp
          with_reducible rfl
        rotate_left
        · simp only [Act.put, List.setIfInBounds_toArray, List.set_cons_zero, List.set_cons_succ]
          rfl
        refine take_ (i := 1) (N := some 15) (v := ?_) (a' := ?_) #[true, true, false, false, false, false, false, false, false, false, false] rfl rfl (take_of HT_.out (by kernel_rfl)) (fun _ _ _ h => h) (Or.inl ⟨by rfl, ?_⟩) hHeld ?_ ?_
        rotate_left
        · intro w' hw'
          obtain ⟨s0, s1, s2⟩ := hw'
          go_simp
          with_reducible rfl
        rotate_left
        · simp only [Act.put, List.setIfInBounds_toArray, List.set_cons_zero, List.set_cons_succ]
          rfl
        refine pure_ (i := 2) (N := some 16) (v := ?_) (a' := ?_) #[true, true, true, false, false, false, false, false, false, false, false] rfl rfl (any_of HT_.out (by kernel_rfl)) (fun _ _ _ h => h) (Or.inl ⟨by rfl, ?_⟩) ?_ ?_
        rotate_left
        · intro w'
          go_simp
          with_reducible rfl
        rotate_left
        · simp only [Act.put, List.setIfInBounds_toArray, List.set_cons_zero, List.set_cons_succ]
          rfl
        refine pure_ (i := 3) (N := some 17) (v := (.bool true)) (a' := ?_) #[true, true, true, true, false, false, false, false, false, false, false] rfl rfl (any_of HT_.out (by kernel_rfl)) (fun _ _ _ h => h) (Or.inl ⟨by rfl, ?_⟩) ?_ ?_
        · intro w'
          go_simp
          first | done | rfl | (simp only [hne, Result.andThen]; done) | (simp [hne]; done) | trace_state
        rotate_left
        · simp only [Act.put, List.setIfInBounds_toArray, List.set_cons_zero, List.set_cons_succ]
          rfl
        refine pure_ (i := 4) (N := some 18) (v := ?_) (a' := ?_) #[true, true, true, true, true, false, false, false, false, false, false] rfl rfl (any_of HT_.out (by kernel_rfl)) (fun _ _ _ h => h) (Or.inl ⟨by rfl, ?_⟩) ?_ ?_
        rotate_left
        · intro w'
          go_simp
          with_reducible rfl
        rotate_left
        · simp only [Act.put, List.setIfInBounds_toArray, List.set_cons_zero, List.set_cons_succ]
          rfl
        refine pure_ (i := 5) (N := some 19) (v := ?_) (a' := ?_) #[true, true, true, true, true, true, false, false, false, false, false] rfl rfl (any_of HT_.out (by kernel_rfl)) (fun _ _ _ h => h) (Or.inl ⟨by rfl, ?_⟩) ?_ ?_
        rotate_left
        · intro w'
          go_simp
          with_reducible rfl
        rotate_left
        · simp only [Act.put, List.setIfInBounds_toArray, List.set_cons_zero, List.set_cons_succ]
          rfl
        refine pure_ (i := 6) (N := some 20) (v := ?_) (a' := ?_) #[true, true, true, true, true, true, true, false, false, false, false] rfl rfl (any_of HT_.out (by kernel_rfl)) (fun _ _ _ h => h) (Or.inl ⟨by rfl, ?_⟩) ?_ ?_
        rotate_left
        · intro w'
          go_simp
          with_reducible rfl
        rotate_left
        · simp only [Act.put, List.setIfInBounds_toArray, List.set_cons_zero, List.set_cons_succ]
          rfl
        refine take_ (i := 7) (N := some 21) (v := ?_) (a' := ?_) #[true, true, true, true, true, true, true, true, false, false, false] rfl rfl (take_of HT_.out (by kernel_rfl)) (fun _ _ _ h => h) (Or.inl ⟨by rfl, ?_⟩) hHeld ?_ ?_
        rotate_left
        · intro w' hw'
          obtain ⟨s0, s1, s2⟩ := hw'
          go_simp
          with_reducible rfl
        rotate_left
        · simp only [Act.put, List.setIfInBounds_toArray, List.set_cons_zero, List.set_cons_succ]
          rfl
        refine one_ (i := 8) (N := some 22) #[true, true, true, true, true, true, true, true, true, false, false] rfl rfl (one_of HT_.out (by kernel_rfl)) (by decide) (fun Kq_ hK_ => ?_)
        refine goesV (.tmp 19) #[.pointer (some ⟨g, 0, none⟩)] #[.int .u64 pm] Try.func14 (by kernel_rfl) rfl #[.int .u64 pm, .pointer (some ⟨g, 0, none⟩)] (by rfl) rfl rfl rfl (by (try simp only [List.map_toArray, List.map_cons, List.map_nil]); first | done | rfl) rfl ?_
        with_reducible refine (true1_any n pm g _ (pw_cell_below HX.out HF0.out)).mono ?_
        rintro e w' ⟨rfl, rfl⟩
        refine ⟨_, rfl, ?_⟩
        refine hK_.out _ _ ⟨pw_cell_below HX.out HY0.out, pw_cell_below HX.out HY1.out, pw_cell_below HX.out HF0.out⟩ (fun hHeld => ?_)
        clear hK_ Kq_
        refine norm_ (a' := ?_) ?_ ?_
        rotate_left
        · show Act.put _ (some 22) _ = _
          simp only [Act.put, List.setIfInBounds_toArray, List.set_cons_zero, List.set_cons_succ]
          rfl
        refine pure_ (i := 9) (N := some 23) (v := ?_) (a' := ?_) #[true, true, true, true, true, true, true, true, true, true, false] rfl rfl (any_of HT_.out (by kernel_rfl)) (fun _ _ _ h => h) (Or.inl ⟨by rfl, ?_⟩) ?_ ?_
        rotate_left
        · intro w'
          go_simp
          with_reducible rfl
        rotate_left
        · simp only [Act.put, List.setIfInBounds_toArray, List.set_cons_zero, List.set_cons_succ]
          rfl
        refine pure_ (i := 10) (N := some 24) (v := (.bool false)) (a' := ?_) #[true, true, true, true, true, true, true, true, true, true, true] rfl rfl (any_of HT_.out (by kernel_rfl)) (fun _ _ _ h => h) (Or.inl ⟨by rfl, ?_⟩) ?_ ?_
        · intro w'
          go_simp
          first | done | rfl | (simp [HBN.out]; done) | (rw [HBN.out]; cases pb <;> rfl) | trace_state
        rotate_left
        · simp only [Act.put, List.setIfInBounds_toArray, List.set_cons_zero, List.set_cons_succ]
          rfl
        refine done_ (done_of HT_.out (by kernel_rfl)) ?_
        have HXX := Aside0.mk (HBX.out.trans (HX.out.mono HBX.out.size))
        clear HT_ hHeld
        go_wp2
        go_roundg (gk - 1)
        case measure => omega
        case rel => exact ⟨k + 1, by go_num, by omega, ⟨fun p hp => by
          rcases (HT.out p).1 hp with h | rfl
          · exact HP.out p h
          · exact HBN.out⟩, ⟨HB.out.trans (HXX.out.mono HB.out.size)⟩⟩
      · have HNO := Aside0.mk (show againB L (badG n) = false from decide_eq_false (fun h => hbn (h _ HME.out)))
        have HBN := Aside0.mk (show pb = !((badG n) pm) by cases pb <;> cases hq : (badG n) pm <;> simp_all)
        clear hbn
        go_wp2_with (fail)
        have HBA := Aside0.mk (show Below W1.heap.size W1 (wr.alloc (.cells #[.int .u64 pm, .bool pb] 35)) from HB.out.alloc HB.out.size _)
        have hxx := blk_new wr (.cells #[.int .u64 pm, .bool pb] 35)
        have HY0 := Aside0.mk (blk_cell hxx 0)
        have HY1 := Aside0.mk (blk_cell hxx 1)
        have HF0 := Aside0.mk (pw_cell_below HBA.out (pw_cell_below HB1.out hc0))
        obtain ⟨wx, hwx⟩ : ∃ wx, wx = wr.alloc (.cells #[.int .u64 pm, .bool pb] 35) := ⟨_, rfl⟩
        have HBX := Aside0.mk (show Below wr.heap.size wr wx by rw [hwx]; exact below_alloc (Below.refl _ _) _)
        rw [← hwx] at HY0 HY1 HBA HF0 ⊢
        clear hwx hxx
        refine start_ (n := 11) (S := fun w' => w'.cell? ⟨wr.heap.size, 0, none⟩ = some (.int .u64 pm) ∧ w'.cell? ⟨wr.heap.size, 1, none⟩ = some (.bool pb) ∧ w'.cell? ⟨g, 0, none⟩ = some (.int .u64 n)) (ds := []) #[false, false, false, false, false, false, false, false, false, false, false] (by kernel_rfl) rfl rfl ⟨pw_cell_below (below_drew (Below.refl _ _)) HY0.out, pw_cell_below (below_drew (Below.refl _ _)) HY1.out, pw_cell_below (below_drew (Below.refl _ _)) HF0.out⟩ (fun hHeld => ?_); refine with_tab tabG4_ok (fun HT_ => ?_)
        have hb : Below wx.heap.size wx wx.drew := below_drew (Below.refl _ _)
        have HX := Aside0.mk hb
        clear hb
        refine pure_ (i := 0) (N := some 14) (v := ?_) (a' := ?_) #[true, false, false, false, false, false, false, false, false, false, false] rfl rfl (any_of HT_.out (by kernel_rfl)) (fun _ _ _ h => h) (Or.inl ⟨by rfl, ?_⟩) ?_ ?_
        rotate_left
        · intro w'
          go_simp
          with_reducible rfl
        rotate_left
        · simp only [Act.put, List.setIfInBounds_toArray, List.set_cons_zero, List.set_cons_succ]
          rfl
        refine take_ (i := 1) (N := some 15) (v := ?_) (a' := ?_) #[true, true, false, false, false, false, false, false, false, false, false] rfl rfl (take_of HT_.out (by kernel_rfl)) (fun _ _ _ h => h) (Or.inl ⟨by rfl, ?_⟩) hHeld ?_ ?_
        rotate_left
        · intro w' hw'
          obtain ⟨s0, s1, s2⟩ := hw'
          go_simp
          with_reducible rfl
        rotate_left
        · simp only [Act.put, List.setIfInBounds_toArray, List.set_cons_zero, List.set_cons_succ]
          rfl
        refine pure_ (i := 2) (N := some 16) (v := ?_) (a' := ?_) #[true, true, true, false, false, false, false, false, false, false, false] rfl rfl (any_of HT_.out (by kernel_rfl)) (fun _ _ _ h => h) (Or.inl ⟨by rfl, ?_⟩) ?_ ?_
        rotate_left
        · intro w'
          go_simp
          with_reducible rfl
        rotate_left
        · simp only [Act.put, List.setIfInBounds_toArray, List.set_cons_zero, List.set_cons_succ]
          rfl
        refine pure_ (i := 3) (N := some 17) (v := (.bool true)) (a' := ?_) #[true, true, true, true, false, false, false, false, false, false, false] rfl rfl (any_of HT_.out (by kernel_rfl)) (fun _ _ _ h => h) (Or.inl ⟨by rfl, ?_⟩) ?_ ?_
        · intro w'
          go_simp
          first | done | rfl | (simp only [hne, Result.andThen]; done) | (simp [hne]; done) | trace_state
        rotate_left
        · simp only [Act.put, List.setIfInBounds_toArray, List.set_cons_zero, List.set_cons_succ]
          rfl
        refine pure_ (i := 4) (N := some 18) (v := ?_) (a' := ?_) #[true, true, true, true, true, false, false, false, false, false, false] rfl rfl (any_of HT_.out (by kernel_rfl)) (fun _ _ _ h => h) (Or.inl ⟨by rfl, ?_⟩) ?_ ?_
        rotate_left
        · intro w'
          go_simp
          with_reducible rfl
        rotate_left
        · simp only [Act.put, List.setIfInBounds_toArray, List.set_cons_zero, List.set_cons_succ]
          rfl
        refine pure_ (i := 5) (N := some 19) (v := ?_) (a' := ?_) #[true, true, true, true, true, true, false, false, false, false, false] rfl rfl (any_of HT_.out (by kernel_rfl)) (fun _ _ _ h => h) (Or.inl ⟨by rfl, ?_⟩) ?_ ?_
        rotate_left
        · intro w'
          go_simp
          with_reducible rfl
        rotate_left
        · simp only [Act.put, List.setIfInBounds_toArray, List.set_cons_zero, List.set_cons_succ]
          rfl
        refine pure_ (i := 6) (N := some 20) (v := ?_) (a' := ?_) #[true, true, true, true, true, true, true, false, false, false, false] rfl rfl (any_of HT_.out (by kernel_rfl)) (fun _ _ _ h => h) (Or.inl ⟨by rfl, ?_⟩) ?_ ?_
        rotate_left
        · intro w'
          go_simp
          with_reducible rfl
        rotate_left
        · simp only [Act.put, List.setIfInBounds_toArray, List.set_cons_zero, List.set_cons_succ]
          rfl
        refine take_ (i := 7) (N := some 21) (v := ?_) (a' := ?_) #[true, true, true, true, true, true, true, true, false, false, false] rfl rfl (take_of HT_.out (by kernel_rfl)) (fun _ _ _ h => h) (Or.inl ⟨by rfl, ?_⟩) hHeld ?_ ?_
        rotate_left
        · intro w' hw'
          obtain ⟨s0, s1, s2⟩ := hw'
          go_simp
          with_reducible rfl
        rotate_left
        · simp only [Act.put, List.setIfInBounds_toArray, List.set_cons_zero, List.set_cons_succ]
          rfl
        refine one_ (i := 8) (N := some 22) #[true, true, true, true, true, true, true, true, true, false, false] rfl rfl (one_of HT_.out (by kernel_rfl)) (by decide) (fun Kq_ hK_ => ?_)
        refine goesV (.tmp 19) #[.pointer (some ⟨g, 0, none⟩)] #[.int .u64 pm] Try.func14 (by kernel_rfl) rfl #[.int .u64 pm, .pointer (some ⟨g, 0, none⟩)] (by rfl) rfl rfl rfl (by (try simp only [List.map_toArray, List.map_cons, List.map_nil]); first | done | rfl) rfl ?_
        with_reducible refine (true1_any n pm g _ (pw_cell_below HX.out HF0.out)).mono ?_
        rintro e w' ⟨rfl, rfl⟩
        refine ⟨_, rfl, ?_⟩
        refine hK_.out _ _ ⟨pw_cell_below HX.out HY0.out, pw_cell_below HX.out HY1.out, pw_cell_below HX.out HF0.out⟩ (fun hHeld => ?_)
        clear hK_ Kq_
        refine norm_ (a' := ?_) ?_ ?_
        rotate_left
        · show Act.put _ (some 22) _ = _
          simp only [Act.put, List.setIfInBounds_toArray, List.set_cons_zero, List.set_cons_succ]
          rfl
        refine pure_ (i := 9) (N := some 23) (v := ?_) (a' := ?_) #[true, true, true, true, true, true, true, true, true, true, false] rfl rfl (any_of HT_.out (by kernel_rfl)) (fun _ _ _ h => h) (Or.inl ⟨by rfl, ?_⟩) ?_ ?_
        rotate_left
        · intro w'
          go_simp
          with_reducible rfl
        rotate_left
        · simp only [Act.put, List.setIfInBounds_toArray, List.set_cons_zero, List.set_cons_succ]
          rfl
        refine pure_ (i := 10) (N := some 24) (v := (.bool true)) (a' := ?_) #[true, true, true, true, true, true, true, true, true, true, true] rfl rfl (any_of HT_.out (by kernel_rfl)) (fun _ _ _ h => h) (Or.inl ⟨by rfl, ?_⟩) ?_ ?_
        · intro w'
          go_simp
          first | done | rfl | (simp [HBN.out]; done) | (rw [HBN.out]; cases pb <;> rfl) | trace_state
        rotate_left
        · simp only [Act.put, List.setIfInBounds_toArray, List.set_cons_zero, List.set_cons_succ]
          rfl
        refine done_ (done_of HT_.out (by kernel_rfl)) ?_
        have HXX := Aside0.mk (HBX.out.trans (HX.out.mono HBX.out.size))
        clear HT_ hHeld
        go_wp2
        go_ret
        exact ⟨retB HNO.out.symm, HB1.out.trans ((HB.out.trans (HXX.out.mono HB.out.size)).mono HB1.out.size)⟩
    · obtain rfl : k = L.length := by omega
      have HNO := Aside0.mk (show againB L (badG n) = true from decide_eq_true (fun p hp => HP.out p (by rw [List.take_length]; exact hp)))
      go_wp2
      go_ret
      exact ⟨retB HNO.out.symm, HB1.out.trans (HB.out.mono HB1.out.size)⟩

set_option maxHeartbeats 1600000 in
set_option maxRecDepth 100000 in
theorem again_search (m : Int) (ok : Bool) (A4 : Option Addr) (n4 c4 : Nat) (L : List (Int × Bool)) (w : World) (n : Int) (g : Nat) (hr4 : Kd.C Lk w A4 n4 L) (hL : ∀ p ∈ L, (Lit.int .u64 p.1).wf = true) (hc0 : w.cell? ⟨g, 0, none⟩ = some (.int .u64 n)) :
    Calls Try.prog 15 #[.agg #[.int .u64 m, .bool ok, .slice A4 n4 c4], .func (.func 20) #[] #[.pointer (some ⟨g, 0, none⟩)]] w fun e w' => e = .returned (.bool (againB L (badG n))) ∧ Below w.heap.size w w' := by
  obtain rfl := C_len hr4
  have hmx4 := C_max hr4
  have HR4 := Aside0.mk hr4
  have HWL := Aside0.mk hL
  clear hr4 hL
  have hne : ∀ W : World, (binOp .neq 38 (.func (.func 20) #[] #[.pointer (some ⟨g, 0, none⟩)]) .nilFunc).run Try.prog W = .ok (.bool true) W := fun _ => rfl
  go_enter Try.func15, Try.ntmps15
  go_wp2
  obtain ⟨W1, hW1⟩ : ∃ W1, W1 = w.alloc (.cells #[.int .u64 m, .bool ok, .slice A4 L.length c4] 25) := ⟨_, rfl⟩
  rw [← hW1]
  have HB1 := Aside0.mk (show Below w.heap.size w W1 by rw [hW1]; exact below_alloc (Below.refl _ _) _)
  replace HR4 := Aside0.mk (Kd.C_below HR4.out HB1.out)
  clear hW1
  go_loopg [10] L.length (fun gk v w' => ∃ k : Nat, v = .int .i64 (k : Int) ∧ k + gk = L.length ∧ Aside0 (∀ p ∈ L.take k, p.2 = (badG n) p.1) ∧ Aside0 (Below W1.heap.size W1 w'))
  case atStart => exact ⟨0, rfl, by omega, ⟨fun p hp => by simp at hp⟩, ⟨Below.refl _ _⟩⟩
  case round =>
    obtain ⟨k, rfl, hkg, HP, HB⟩ := hrel
    by_cases hk : k < L.length
    · obtain ⟨a4, rfl, hc1⟩ := C_flat HR4.out (0, false) k hk
      obtain ⟨x, hx⟩ : ∃ x, x = L.getD k (0, false) := ⟨_, rfl⟩
      obtain ⟨pm, pb⟩ := x
      have hget : L[k] = (pm, pb) := by rw [hx, List.getD_eq_getElem?_getD, List.getElem?_eq_getElem hk]; rfl
      rw [← hx] at hc1
      have g0 : wr.cell? (a4.add (k * 2)) = some (.int .u64 pm) := pw_cell_below HB.out (hc1 0 _ rfl)
      have g1 : wr.cell? ⟨(a4.add (k * 2)).block, (a4.add (k * 2)).off + 1, none⟩ = some (.bool pb) := pw_cell_below HB.out ((add_next a4 (k * 2)) ▸ hc1 1 _ rfl)
      have HME := Aside0.mk (show (pm, pb) ∈ L from hget ▸ List.getElem_mem hk)
      have HT := Aside0.mk (show ∀ p, p ∈ L.take (k + 1) ↔ p ∈ L.take k ∨ p = (pm, pb) from fun p => by rw [List.take_succ_eq_append_getElem hk, hget]; simp)
      have hpm0 : 0 ≤ pm := (wf_u64 (HWL.out _ HME.out)).1
      have hk0 : (0 : Int) ≤ (k : Int) := by omega
      have hk1 : (k : Int) < (L.length : Int) := by omega
      clear hc1 hx hget
      by_cases hbn : pb = (badG n) pm
      · have HBN := Aside0.mk hbn
        clear hbn
        go_wp2_with (fail)
        have HBA := Aside0.mk (show Below W1.heap.size W1 (wr.alloc (.cells #[.int .u64 pm, .bool pb] 35)) from HB.out.alloc HB.out.size _)
        have hxx := blk_new wr (.cells #[.int .u64 pm, .bool pb] 35)
        have HY0 := Aside0.mk (blk_cell hxx 0)
        have HY1 := Aside0.mk (blk_cell hxx 1)
        have HF0 := Aside0.mk (pw_cell_below HBA.out (pw_cell_below HB1.out hc0))
        obtain ⟨wx, hwx⟩ : ∃ wx, wx = wr.alloc (.cells #[.int .u64 pm, .bool pb] 35) := ⟨_, rfl⟩
        have HBX := Aside0.mk (show Below wr.heap.size wr wx by rw [hwx]; exact below_alloc (Below.refl _ _) _)
        rw [← hwx] at HY0 HY1 HBA HF0 ⊢
        clear hwx hxx
        refine start_ (n := 11) (S := fun w' => w'.cell? ⟨wr.heap.size, 0, none⟩ = some (.int .u64 pm) ∧ w'.cell? ⟨wr.heap.size, 1, none⟩ = some (.bool pb) ∧ w'.cell? ⟨g, 0, none⟩ = some (.int .u64 n)) (ds := []) #[false, false, false, false, false, false, false, false, false, false, false] (by kernel_rfl) rfl rfl ⟨pw_cell_below (below_drew (Below.refl _ _)) HY0.out, pw_cell_below (below_drew (Below.refl _ _)) HY1.out, pw_cell_below (below_drew (Below.refl _ _)) HF0.out⟩ (fun hHeld => ?_); refine with_tab tabG4_ok (fun HT_ => ?_)
        have hb : Below wx.heap.size wx wx.drew := below_drew (Below.refl _ _)
        have HX := Aside0.mk hb
        clear hb
        refine pure_ (i := 0) (N := some 14) (v := ?_) (a' := ?_) #[true, false, false, false, false, false, false, false, false, false, false] rfl rfl (any_of HT_.out (by kernel_rfl)) (fun _ _ _ h => h) (Or.inl ⟨by rfl, ?_⟩) ?_ ?_
        rotate_left
        · intro w'
          go_simp
          with_reducible rfl
        rotate_left
        · simp only [Act.put, List.setIfInBounds_toArray, List.set_cons_zero, List.set_cons_succ]
          rfl
        refine take_ (i := 1) (N := some 15) (v := ?_) (a' := ?_) #[true, true, false, false, false, false, false, false, false, false, false] rfl rfl (take_of HT_.out (by kernel_rfl)) (fun _ _ _ h => h) (Or.inl ⟨by rfl, ?_⟩) hHeld ?_ ?_
        rotate_left
        · intro w' hw'
          obtain ⟨s0, s1, s2⟩ := hw'
          go_simp
          with_reducible rfl
        rotate_left
        · simp only [Act.put, List.setIfInBounds_toArray, List.set_cons_zero, List.set_cons_succ]
          rfl
        refine pure_ (i := 2) (N := some 16) (v := ?_) (a' := ?_) #[true, true, true, false, false, false, false, false, false, false, false] rfl rfl (any_of HT_.out (by kernel_rfl)) (fun _ _ _ h => h) (Or.inl ⟨by rfl, ?_⟩) ?_ ?_
        rotate_left
        · intro w'
          go_simp
          with_reducible rfl
        rotate_left
        · simp only [Act.put, List.setIfInBounds_toArray, List.set_cons_zero, List.set_cons_succ]
          rfl
        refine pure_ (i := 3) (N := some 17) (v := (.bool true)) (a' := ?_) #[true, true, true, true, false, false, false, false, false, false, false] rfl rfl (any_of HT_.out (by kernel_rfl)) (fun _ _ _ h => h) (Or.inl ⟨by rfl, ?_⟩) ?_ ?_
        · intro w'
          go_simp
          first | done | rfl | (simp only [hne, Result.andThen]; done) | (simp [hne]; done) | trace_state
        rotate_left
        · simp only [Act.put, List.setIfInBounds_toArray, List.set_cons_zero, List.set_cons_succ]
          rfl
        refine pure_ (i := 4) (N := some 18) (v := ?_) (a' := ?_) #[true, true, true, true, true, false, false, false, false, false, false] rfl rfl (any_of HT_.out (by kernel_rfl)) (fun _ _ _ h => h) (Or.inl ⟨by rfl, ?_⟩) ?_ ?_
        rotate_left
        · intro w'
          go_simp
          with_reducible rfl
        rotate_left
        · simp only [Act.put, List.setIfInBounds_toArray, List.set_cons_zero, List.set_cons_succ]
          rfl
        refine pure_ (i := 5) (N := some 19) (v := ?_) (a' := ?_) #[true, true, true, true, true, true, false, false, false, false, false] rfl rfl (any_of HT_.out (by kernel_rfl)) (fun _ _ _ h => h) (Or.inl ⟨by rfl, ?_⟩) ?_ ?_
        rotate_left
        · intro w'
          go_simp
          with_reducible rfl
        rotate_left
        · simp only [Act.put, List.setIfInBounds_toArray, List.set_cons_zero, List.set_cons_succ]
          rfl
        refine pure_ (i := 6) (N := some 20) (v := ?_) (a' := ?_) #[true, true, true, true, true, true, true, false, false, false, false] rfl rfl (any_of HT_.out (by kernel_rfl)) (fun _ _ _ h => h) (Or.inl ⟨by rfl, ?_⟩) ?_ ?_
        rotate_left
        · intro w'
          go_simp
          with_reducible rfl
        rotate_left
        · simp only [Act.put, List.setIfInBounds_toArray, List.set_cons_zero, List.set_cons_succ]
          rfl
        refine take_ (i := 7) (N := some 21) (v := ?_) (a' := ?_) #[true, true, true, true, true, true, true, true, false, false, false] rfl rfl (take_of HT_.out (by kernel_rfl)) (fun _ _ _ h => h) (Or.inl ⟨by rfl, ?_⟩) hHeld ?_ ?_
        rotate_left
        · intro w' hw'
          obtain ⟨s0, s1, s2⟩ := hw'
          go_simp
          with_reducible rfl
        rotate_left
        · simp only [Act.put, List.setIfInBounds_toArray, List.set_cons_zero, List.set_cons_succ]
          rfl
        refine one_ (i := 8) (N := some 22) #[true, true, true, true, true, true, true, true, true, false, false] rfl rfl (one_of HT_.out (by kernel_rfl)) (by decide) (fun Kq_ hK_ => ?_)
        refine goesV (.tmp 19) #[.pointer (some ⟨g, 0, none⟩)] #[.int .u64 pm] Try.func20 (by kernel_rfl) rfl #[.int .u64 pm, .pointer (some ⟨g, 0, none⟩)] (by rfl) rfl rfl rfl (by (try simp only [List.map_toArray, List.map_cons, List.map_nil]); first | done | rfl) rfl ?_
        with_reducible refine (search1_any n pm g _ (pw_cell_below HX.out HF0.out)).mono ?_
        rintro e w' ⟨rfl, rfl⟩
        refine ⟨_, rfl, ?_⟩
        refine hK_.out _ _ ⟨pw_cell_below HX.out HY0.out, pw_cell_below HX.out HY1.out, pw_cell_below HX.out HF0.out⟩ (fun hHeld => ?_)
        clear hK_ Kq_
        refine norm_ (a' := ?_) ?_ ?_
        rotate_left
        · show Act.put _ (some 22) _ = _
          simp only [Act.put, List.setIfInBounds_toArray, List.set_cons_zero, List.set_cons_succ]
          rfl
        refine pure_ (i := 9) (N := some 23) (v := ?_) (a' := ?_) #[true, true, true, true, true, true, true, true, true, true, false] rfl rfl (any_of HT_.out (by kernel_rfl)) (fun _ _ _ h => h) (Or.inl ⟨by rfl, ?_⟩) ?_ ?_
        rotate_left
        · intro w'
          go_simp
          with_reducible rfl
        rotate_left
        · simp only [Act.put, List.setIfInBounds_toArray, List.set_cons_zero, List.set_cons_succ]
          rfl
        refine pure_ (i := 10) (N := some 24) (v := (.bool false)) (a' := ?_) #[true, true, true, true, true, true, true, true, true, true, true] rfl rfl (any_of HT_.out (by kernel_rfl)) (fun _ _ _ h => h) (Or.inl ⟨by rfl, ?_⟩) ?_ ?_
        · intro w'
          go_simp
          first | done | rfl | (simp [HBN.out]; done) | (rw [HBN.out]; cases pb <;> rfl) | trace_state
        rotate_left
        · simp only [Act.put, List.setIfInBounds_toArray, List.set_cons_zero, List.set_cons_succ]
          rfl
        refine done_ (done_of HT_.out (by kernel_rfl)) ?_
        have HXX := Aside0.mk (HBX.out.trans (HX.out.mono HBX.out.size))
        clear HT_ hHeld
        go_wp2
        go_roundg (gk - 1)
        case measure => omega
        case rel => exact ⟨k + 1, by go_num, by omega, ⟨fun p hp => by
          rcases (HT.out p).1 hp with h | rfl
          · exact HP.out p h
          · exact HBN.out⟩, ⟨HB.out.trans (HXX.out.mono HB.out.size)⟩⟩
      · have HNO := Aside0.mk (show againB L (badG n) = false from decide_eq_false (fun h => hbn (h _ HME.out)))
        have HBN := Aside0.mk (show pb = !((badG n) pm) by cases pb <;> cases hq : (badG n) pm <;> simp_all)
        clear hbn
        go_wp2_with (fail)
        have HBA := Aside0.mk (show Below W1.heap.size W1 (wr.alloc (.cells #[.int .u64 pm, .bool pb] 35)) from HB.out.alloc HB.out.size _)
        have hxx := blk_new wr (.cells #[.int .u64 pm, .bool pb] 35)
        have HY0 := Aside0.mk (blk_cell hxx 0)
        have HY1 := Aside0.mk (blk_cell hxx 1)
        have HF0 := Aside0.mk (pw_cell_below HBA.out (pw_cell_below HB1.out hc0))
        obtain ⟨wx, hwx⟩ : ∃ wx, wx = wr.alloc (.cells #[.int .u64 pm, .bool pb] 35) := ⟨_, rfl⟩
        have HBX := Aside0.mk (show Below wr.heap.size wr wx by rw [hwx]; exact below_alloc (Below.refl _ _) _)
        rw [← hwx] at HY0 HY1 HBA HF0 ⊢
        clear hwx hxx
        refine start_ (n := 11) (S := fun w' => w'.cell? ⟨wr.heap.size, 0, none⟩ = some (.int .u64 pm) ∧ w'.cell? ⟨wr.heap.size, 1, none⟩ = some (.bool pb) ∧ w'.cell? ⟨g, 0, none⟩ = some (.int .u64 n)) (ds := []) #[false, false, false, false, false, false, false, false, false, false, false] (by kernel_rfl) rfl rfl ⟨pw_cell_below (below_drew (Below.refl _ _)) HY0.out, pw_cell_below (below_drew (Below.refl _ _)) HY1.out, pw_cell_below (below_drew (Below.refl _ _)) HF0.out⟩ (fun hHeld => ?_); refine with_tab tabG4_ok (fun HT_ => ?_)
        have hb : Below wx.heap.size wx wx.drew := below_drew (Below.refl _ _)
        have HX := Aside0.mk hb
        clear hb
        refine pure_ (i := 0) (N := some 14) (v := ?_) (a' := ?_) #[true, false, false, false, false, false, false, false, false, false, false] rfl rfl (any_of HT_.out (by kernel_rfl)) (fun _ _ _ h => h) (Or.inl ⟨by rfl, ?_⟩) ?_ ?_
        rotate_left
        · intro w'
          go_simp
          with_reducible rfl
        rotate_left
        · simp only [Act.put, List.setIfInBounds_toArray, List.set_cons_zero, List.set_cons_succ]
          rfl
        refine take_ (i := 1) (N := some 15) (v := ?_) (a' := ?_) #[true, true, false, false, false, false, false, false, false, false, false] rfl rfl (take_of HT_.out (by kernel_rfl)) (fun _ _ _ h => h) (Or.inl ⟨by rfl, ?_⟩) hHeld ?_ ?_
        rotate_left
        · intro w' hw'
          obtain ⟨s0, s1, s2⟩ := hw'
          go_simp
          with_reducible rfl
        rotate_left
        · simp only [Act.put, List.setIfInBounds_toArray, List.set_cons_zero, List.set_cons_succ]
          rfl
        refine pure_ (i := 2) (N := some 16) (v := ?_) (a' := ?_) #[true, true, true, false, false, false, false, false, false, false, false] rfl rfl (any_of HT_.out (by kernel_rfl)) (fun _ _ _ h => h) (Or.inl ⟨by rfl, ?_⟩) ?_ ?_
        rotate_left
        · intro w'
          go_simp
          with_reducible rfl
        rotate_left
        · simp only [Act.put, List.setIfInBounds_toArray, List.set_cons_zero, List.set_cons_succ]
          rfl
        refine pure_ (i := 3) (N := some 17) (v := (.bool true)) (a' := ?_) #[true, true, true, true, false, false, false, false, false, false, false] rfl rfl (any_of HT_.out (by kernel_rfl)) (fun _ _ _ h => h) (Or.inl ⟨by rfl, ?_⟩) ?_ ?_
        · intro w'
          go_simp
          first | done | rfl | (simp only [hne, Result.andThen]; done) | (simp [hne]; done) | trace_state
        rotate_left
        · simp only [Act.put, List.setIfInBounds_toArray, List.set_cons_zero, List.set_cons_succ]
          rfl
        refine pure_ (i := 4) (N := some 18) (v := ?_) (a' := ?_) #[true, true, true, true, true, false, false, false, false, false, false] rfl rfl (any_of HT_.out (by kernel_rfl)) (fun _ _ _ h => h) (Or.inl ⟨by rfl, ?_⟩) ?_ ?_
        rotate_left
        · intro w'
          go_simp
          with_reducible rfl
        rotate_left
        · simp only [Act.put, List.setIfInBounds_toArray, List.set_cons_zero, List.set_cons_succ]
          rfl
        refine pure_ (i := 5) (N := some 19) (v := ?_) (a' := ?_) #[true, true, true, true, true, true, false, false, false, false, false] rfl rfl (any_of HT_.out (by kernel_rfl)) (fun _ _ _ h => h) (Or.inl ⟨by rfl, ?_⟩) ?_ ?_
        rotate_left
        · intro w'
          go_simp
          with_reducible rfl
        rotate_left
        · simp only [Act.put, List.setIfInBounds_toArray, List.set_cons_zero, List.set_cons_succ]
          rfl
        refine pure_ (i := 6) (N := some 20) (v := ?_) (a' := ?_) #[true, true, true, true, true, true, true, false, false, false, false] rfl rfl (any_of HT_.out (by kernel_rfl)) (fun _ _ _ h => h) (Or.inl ⟨by rfl, ?_⟩) ?_ ?_
        rotate_left
        · intro w'
          go_simp
          with_reducible rfl
        rotate_left
        · simp only [Act.put, List.setIfInBounds_toArray, List.set_cons_zero, List.set_cons_succ]
          rfl
        refine take_ (i := 7) (N := some 21) (v := ?_) (a' := ?_) #[true, true, true, true, true, true, true, true, false, false, false] rfl rfl (take_of HT_.out (by kernel_rfl)) (fun _ _ _ h => h) (Or.inl ⟨by rfl, ?_⟩) hHeld ?_ ?_
        rotate_left
        · intro w' hw'
          obtain ⟨s0, s1, s2⟩ := hw'
          go_simp
          with_reducible rfl
        rotate_left
        · simp only [Act.put, List.setIfInBounds_toArray, List.set_cons_zero, List.set_cons_succ]
          rfl
        refine one_ (i := 8) (N := some 22) #[true, true, true, true, true, true, true, true, true, false, false] rfl rfl (one_of HT_.out (by kernel_rfl)) (by decide) (fun Kq_ hK_ => ?_)
        refine goesV (.tmp 19) #[.pointer (some ⟨g, 0, none⟩)] #[.int .u64 pm] Try.func20 (by kernel_rfl) rfl #[.int .u64 pm, .pointer (some ⟨g, 0, none⟩)] (by rfl) rfl rfl rfl (by (try simp only [List.map_toArray, List.map_cons, List.map_nil]); first | done | rfl) rfl ?_
        with_reducible refine (search1_any n pm g _ (pw_cell_below HX.out HF0.out)).mono ?_
        rintro e w' ⟨rfl, rfl⟩
        refine ⟨_, rfl, ?_⟩
        refine hK_.out _ _ ⟨pw_cell_below HX.out HY0.out, pw_cell_below HX.out HY1.out, pw_cell_below HX.out HF0.out⟩ (fun hHeld => ?_)
        clear hK_ Kq_
        refine norm_ (a' := ?_) ?_ ?_
        rotate_left
        · show Act.put _ (some 22) _ = _
          simp only [Act.put, List.setIfInBounds_toArray, List.set_cons_zero, List.set_cons_succ]
          rfl
        refine pure_ (i := 9) (N := some 23) (v := ?_) (a' := ?_) #[true, true, true, true, true, true, true, true, true, true, false] rfl rfl (any_of HT_.out (by kernel_rfl)) (fun _ _ _ h => h) (Or.inl ⟨by rfl, ?_⟩) ?_ ?_
        rotate_left
        · intro w'
          go_simp
          with_reducible rfl
        rotate_left
        · simp only [Act.put, List.setIfInBounds_toArray, List.set_cons_zero, List.set_cons_succ]
          rfl
        refine pure_ (i := 10) (N := some 24) (v := (.bool true)) (a' := ?_) #[true, true, true, true, true, true, true, true, true, true, true] rfl rfl (any_of HT_.out (by kernel_rfl)) (fun _ _ _ h => h) (Or.inl ⟨by rfl, ?_⟩) ?_ ?_
        · intro w'
          go_simp
          first | done | rfl | (simp [HBN.out]; done) | (rw [HBN.out]; cases pb <;> rfl) | trace_state
        rotate_left
        · simp only [Act.put, List.setIfInBounds_toArray, List.set_cons_zero, List.set_cons_succ]
          rfl
        refine done_ (done_of HT_.out (by kernel_rfl)) ?_
        have HXX := Aside0.mk (HBX.out.trans (HX.out.mono HBX.out.size))
        clear HT_ hHeld
        go_wp2
        go_ret
        exact ⟨retB HNO.out.symm, HB1.out.trans ((HB.out.trans (HXX.out.mono HB.out.size)).mono HB1.out.size)⟩
    · obtain rfl : k = L.length := by omega
      have HNO := Aside0.mk (show againB L (badG n) = true from decide_eq_true (fun p hp => HP.out p (by rw [List.take_length]; exact hp)))
      go_wp2
      go_ret
      exact ⟨retB HNO.out.symm, HB1.out.trans (HB.out.mono HB1.out.size)⟩

set_option maxHeartbeats 1600000 in
set_option maxRecDepth 100000 in
theorem again_again (m : Int) (ok : Bool) (A4 : Option Addr) (n4 c4 : Nat) (L : List (Int × Bool)) (w : World) (a b : Int) (g h : Nat) (hr4 : Kd.C Lk w A4 n4 L) (hL : ∀ p ∈ L, (Lit.int .u64 p.1).wf = true) (hc0 : w.cell? ⟨g, 0, none⟩ = some (.int .u64 a)) (hc1 : w.cell? ⟨h, 0, none⟩ = some (.int .u64 b)) :
    Calls Try.prog 15 #[.agg #[.int .u64 m, .bool ok, .slice A4 n4 c4], .func (.func 16) #[] #[.pointer (some ⟨g, 0, none⟩), .pointer (some ⟨h, 0, none⟩)]] w fun e w' => e = .returned (.bool (againB L (badW a b))) ∧ Below w.heap.size w w' := by
  obtain rfl := C_len hr4
  have hmx4 := C_max hr4
  have HR4 := Aside0.mk hr4
  have HWL := Aside0.mk hL
  clear hr4 hL
  have hne : ∀ W : World, (binOp .neq 38 (.func (.func 16) #[] #[.pointer (some ⟨g, 0, none⟩), .pointer (some ⟨h, 0, none⟩)]) .nilFunc).run Try.prog W = .ok (.bool true) W := fun _ => rfl
  go_enter Try.func15, Try.ntmps15
  go_wp2
  obtain ⟨W1, hW1⟩ : ∃ W1, W1 = w.alloc (.cells #[.int .u64 m, .bool ok, .slice A4 L.length c4] 25) := ⟨_, rfl⟩
  rw [← hW1]
  have HB1 := Aside0.mk (show Below w.heap.size w W1 by rw [hW1]; exact below_alloc (Below.refl _ _) _)
  replace HR4 := Aside0.mk (Kd.C_below HR4.out HB1.out)
  clear hW1
  go_loopg [10] L.length (fun gk v w' => ∃ k : Nat, v = .int .i64 (k : Int) ∧ k + gk = L.length ∧ Aside0 (∀ p ∈ L.take k, p.2 = (badW a b) p.1) ∧ Aside0 (Below W1.heap.size W1 w'))
  case atStart => exact ⟨0, rfl, by omega, ⟨fun p hp => by simp at hp⟩, ⟨Below.refl _ _⟩⟩
  case round =>
    obtain ⟨k, rfl, hkg, HP, HB⟩ := hrel
    by_cases hk : k < L.length
    · obtain ⟨a4, rfl, hc1⟩ := C_flat HR4.out (0, false) k hk
      obtain ⟨x, hx⟩ : ∃ x, x = L.getD k (0, false) := ⟨_, rfl⟩
      obtain ⟨pm, pb⟩ := x
      have hget : L[k] = (pm, pb) := by rw [hx, List.getD_eq_getElem?_getD, List.getElem?_eq_getElem hk]; rfl
      rw [← hx] at hc1
      have g0 : wr.cell? (a4.add (k * 2)) = some (.int .u64 pm) := pw_cell_below HB.out (hc1 0 _ rfl)
      have g1 : wr.cell? ⟨(a4.add (k * 2)).block, (a4.add (k * 2)).off + 1, none⟩ = some (.bool pb) := pw_cell_below HB.out ((add_next a4 (k * 2)) ▸ hc1 1 _ rfl)
      have HME := Aside0.mk (show (pm, pb) ∈ L from hget ▸ List.getElem_mem hk)
      have HT := Aside0.mk (show ∀ p, p ∈ L.take (k + 1) ↔ p ∈ L.take k ∨ p = (pm, pb) from fun p => by rw [List.take_succ_eq_append_getElem hk, hget]; simp)
      have hpm0 : 0 ≤ pm := (wf_u64 (HWL.out _ HME.out)).1
      have hk0 : (0 : Int) ≤ (k : Int) := by omega
      have hk1 : (k : Int) < (L.length : Int) := by omega
      clear hc1 hx hget
      by_cases hbn : pb = (badW a b) pm
      · have HBN := Aside0.mk hbn
        clear hbn
        go_wp2_with (fail)
        have HBA := Aside0.mk (show Below W1.heap.size W1 (wr.alloc (.cells #[.int .u64 pm, .bool pb] 35)) from HB.out.alloc HB.out.size _)
        have hxx := blk_new wr (.cells #[.int .u64 pm, .bool pb] 35)
        have HY0 := Aside0.mk (blk_cell hxx 0)
        have HY1 := Aside0.mk (blk_cell hxx 1)
        have HF0 := Aside0.mk (pw_cell_below HBA.out (pw_cell_below HB1.out hc0))
        have HF1 := Aside0.mk (pw_cell_below HBA.out (pw_cell_below HB1.out hc1))
        obtain ⟨wx, hwx⟩ : ∃ wx, wx = wr.alloc (.cells #[.int .u64 pm, .bool pb] 35) := ⟨_, rfl⟩
        have HBX := Aside0.mk (show Below wr.heap.size wr wx by rw [hwx]; exact below_alloc (Below.refl _ _) _)
        rw [← hwx] at HY0 HY1 HBA HF0 HF1 ⊢
        clear hwx hxx
        refine start_ (n := 11) (S := fun w' => w'.cell? ⟨wr.heap.size, 0, none⟩ = some (.int .u64 pm) ∧ w'.cell? ⟨wr.heap.size, 1, none⟩ = some (.bool pb) ∧ w'.cell? ⟨g, 0, none⟩ = some (.int .u64 a) ∧ w'.cell? ⟨h, 0, none⟩ = some (.int .u64 b)) (ds := []) #[false, false, false, false, false, false, false, false, false, false, false] (by kernel_rfl) rfl rfl ⟨pw_cell_below (below_drew (Below.refl _ _)) HY0.out, pw_cell_below (below_drew (Below.refl _ _)) HY1.out, pw_cell_below (below_drew (Below.refl _ _)) HF0.out, pw_cell_below (below_drew (Below.refl _ _)) HF1.out⟩ (fun hHeld => ?_); refine with_tab tabG4_ok (fun HT_ => ?_)
        have hb : Below wx.heap.size wx wx.drew := below_drew (Below.refl _ _)
        have HX := Aside0.mk hb
        clear hb
        refine pure_ (i := 0) (N := some 14) (v := ?_) (a' := ?_) #[true, false, false, false, false, false, false, false, false, false, false] rfl rfl (any_of HT_.out (by kernel_rfl)) (fun _ _ _ h => h) (Or.inl ⟨by rfl, ?_⟩) ?_ ?_
        rotate_left
        · intro w'
          go_simp
          with_reducible rfl
        rotate_left
        · simp only [Act.put, List.setIfInBounds_toArray, List.set_cons_zero, List.set_cons_succ]
          rfl
        refine take_ (i := 1) (N := some 15) (v := ?_) (a' := ?_) #[true, true, false, false, false, false, false, false, false, false, false] rfl rfl (take_of HT_.out (by kernel_rfl)) (fun _ _ _ h => h) (Or.inl ⟨by rfl, ?_⟩) hHeld ?_ ?_
        rotate_left
        · intro w' hw'
          obtain ⟨s0, s1, s2, s3⟩ := hw'
          go_simp
          with_reducible rfl
        rotate_left
        · simp only [Act.put, List.setIfInBounds_toArray, List.set_cons_zero, List.set_cons_succ]
          rfl
        refine pure_ (i := 2) (N := some 16) (v := ?_) (a' := ?_) #[true, true, true, false, false, false, false, false, false, false, false] rfl rfl (any_of HT_.out (by kernel_rfl)) (fun _ _ _ h => h) (Or.inl ⟨by rfl, ?_⟩) ?_ ?_
        rotate_left
        · intro w'
          go_simp
          with_reducible rfl
        rotate_left
        · simp only [Act.put, List.setIfInBounds_toArray, List.set_cons_zero, List.set_cons_succ]
          rfl
        refine pure_ (i := 3) (N := some 17) (v := (.bool true)) (a' := ?_) #[true, true, true, true, false, false, false, false, false, false, false] rfl rfl (any_of HT_.out (by kernel_rfl)) (fun _ _ _ h => h) (Or.inl ⟨by rfl, ?_⟩) ?_ ?_
        · intro w'
          go_simp
          first | done | rfl | (simp only [hne, Result.andThen]; done) | (simp [hne]; done) | trace_state
        rotate_left
        · simp only [Act.put, List.setIfInBounds_toArray, List.set_cons_zero, List.set_cons_succ]
          rfl
        refine pure_ (i := 4) (N := some 18) (v := ?_) (a' := ?_) #[true, true, true, true, true, false, false, false, false, false, false] rfl rfl (any_of HT_.out (by kernel_rfl)) (fun _ _ _ h => h) (Or.inl ⟨by rfl, ?_⟩) ?_ ?_
        rotate_left
        · intro w'
          go_simp
          with_reducible rfl
        rotate_left
        · simp only [Act.put, List.setIfInBounds_toArray, List.set_cons_zero, List.set_cons_succ]
          rfl
        refine pure_ (i := 5) (N := some 19) (v := ?_) (a' := ?_) #[true, true, true, true, true, true, false, false, false, false, false] rfl rfl (any_of HT_.out (by kernel_rfl)) (fun _ _ _ h => h) (Or.inl ⟨by rfl, ?_⟩) ?_ ?_
        rotate_left
        · intro w'
          go_simp
          with_reducible rfl
        rotate_left
        · simp only [Act.put, List.setIfInBounds_toArray, List.set_cons_zero, List.set_cons_succ]
          rfl
        refine pure_ (i := 6) (N := some 20) (v := ?_) (a' := ?_) #[true, true, true, true, true, true, true, false, false, false, false] rfl rfl (any_of HT_.out (by kernel_rfl)) (fun _ _ _ h => h) (Or.inl ⟨by rfl, ?_⟩) ?_ ?_
        rotate_left
        · intro w'
          go_simp
          with_reducible rfl
        rotate_left
        · simp only [Act.put, List.setIfInBounds_toArray, List.set_cons_zero, List.set_cons_succ]
          rfl
        refine take_ (i := 7) (N := some 21) (v := ?_) (a' := ?_) #[true, true, true, true, true, true, true, true, false, false, false] rfl rfl (take_of HT_.out (by kernel_rfl)) (fun _ _ _ h => h) (Or.inl ⟨by rfl, ?_⟩) hHeld ?_ ?_
        rotate_left
        · intro w' hw'
          obtain ⟨s0, s1, s2, s3⟩ := hw'
          go_simp
          with_reducible rfl
        rotate_left
        · simp only [Act.put, List.setIfInBounds_toArray, List.set_cons_zero, List.set_cons_succ]
          rfl
        refine one_ (i := 8) (N := some 22) #[true, true, true, true, true, true, true, true, true, false, false] rfl rfl (one_of HT_.out (by kernel_rfl)) (by decide) (fun Kq_ hK_ => ?_)
        refine goesV (.tmp 19) #[.pointer (some ⟨g, 0, none⟩), .pointer (some ⟨h, 0, none⟩)] #[.int .u64 pm] Try.func16 (by kernel_rfl) rfl #[.int .u64 pm, .pointer (some ⟨g, 0, none⟩), .pointer (some ⟨h, 0, none⟩)] (by rfl) rfl rfl rfl (by (try simp only [List.map_toArray, List.map_cons, List.map_nil]); first | done | rfl) rfl ?_
        with_reducible refine (again1_any a b pm g h _ (pw_cell_below HX.out HF0.out) (pw_cell_below HX.out HF1.out)).mono ?_
        rintro e w' ⟨rfl, rfl⟩
        refine ⟨_, rfl, ?_⟩
        refine hK_.out _ _ ⟨pw_cell_below HX.out HY0.out, pw_cell_below HX.out HY1.out, pw_cell_below HX.out HF0.out, pw_cell_below HX.out HF1.out⟩ (fun hHeld => ?_)
        clear hK_ Kq_
        refine norm_ (a' := ?_) ?_ ?_
        rotate_left
        · show Act.put _ (some 22) _ = _
          simp only [Act.put, List.setIfInBounds_toArray, List.set_cons_zero, List.set_cons_succ]
          rfl
        refine pure_ (i := 9) (N := some 23) (v := ?_) (a' := ?_) #[true, true, true, true, true, true, true, true, true, true, false] rfl rfl (any_of HT_.out (by kernel_rfl)) (fun _ _ _ h => h) (Or.inl ⟨by rfl, ?_⟩) ?_ ?_
        rotate_left
        · intro w'
          go_simp
          with_reducible rfl
        rotate_left
        · simp only [Act.put, List.setIfInBounds_toArray, List.set_cons_zero, List.set_cons_succ]
          rfl
        refine pure_ (i := 10) (N := some 24) (v := (.bool false)) (a' := ?_) #[true, true, true, true, true, true, true, true, true, true, true] rfl rfl (any_of HT_.out (by kernel_rfl)) (fun _ _ _ h => h) (Or.inl ⟨by rfl, ?_⟩) ?_ ?_
        · intro w'
          go_simp
          first | done | rfl | (simp [HBN.out]; done) | (rw [HBN.out]; cases pb <;> rfl) | trace_state
        rotate_left
        · simp only [Act.put, List.setIfInBounds_toArray, List.set_cons_zero, List.set_cons_succ]
          rfl
        refine done_ (done_of HT_.out (by kernel_rfl)) ?_
        have HXX := Aside0.mk (HBX.out.trans (HX.out.mono HBX.out.size))
        clear HT_ hHeld
        go_wp2
        go_roundg (gk - 1)
        case measure => omega
        case rel => exact ⟨k + 1, by go_num, by omega, ⟨fun p hp => by
          rcases (HT.out p).1 hp with h | rfl
          · exact HP.out p h
          · exact HBN.out⟩, ⟨HB.out.trans (HXX.out.mono HB.out.size)⟩⟩
      · have HNO := Aside0.mk (show againB L (badW a b) = false from decide_eq_false (fun h => hbn (h _ HME.out)))
        have HBN := Aside0.mk (show pb = !((badW a b) pm) by cases pb <;> cases hq : (badW a b) pm <;> simp_all)
        clear hbn
        go_wp2_with (fail)
        have HBA := Aside0.mk (show Below W1.heap.size W1 (wr.alloc (.cells #[.int .u64 pm, .bool pb] 35)) from HB.out.alloc HB.out.size _)
        have hxx := blk_new wr (.cells #[.int .u64 pm, .bool pb] 35)
        have HY0 := Aside0.mk (blk_cell hxx 0)
        have HY1 := Aside0.mk (blk_cell hxx 1)
        have HF0 := Aside0.mk (pw_cell_below HBA.out (pw_cell_below HB1.out hc0))
        have HF1 := Aside0.mk (pw_cell_below HBA.out (pw_cell_below HB1.out hc1))
        obtain ⟨wx, hwx⟩ : ∃ wx, wx = wr.alloc (.cells #[.int .u64 pm, .bool pb] 35) := ⟨_, rfl⟩
        have HBX := Aside0.mk (show Below wr.heap.size wr wx by rw [hwx]; exact below_alloc (Below.refl _ _) _)
        rw [← hwx] at HY0 HY1 HBA HF0 HF1 ⊢
        clear hwx hxx
        refine start_ (n := 11) (S := fun w' => w'.cell? ⟨wr.heap.size, 0, none⟩ = some (.int .u64 pm) ∧ w'.cell? ⟨wr.heap.size, 1, none⟩ = some (.bool pb) ∧ w'.cell? ⟨g, 0, none⟩ = some (.int .u64 a) ∧ w'.cell? ⟨h, 0, none⟩ = some (.int .u64 b)) (ds := []) #[false, false, false, false, false, false, false, false, false, false, false] (by kernel_rfl) rfl rfl ⟨pw_cell_below (below_drew (Below.refl _ _)) HY0.out, pw_cell_below (below_drew (Below.refl _ _)) HY1.out, pw_cell_below (below_drew (Below.refl _ _)) HF0.out, pw_cell_below (below_drew (Below.refl _ _)) HF1.out⟩ (fun hHeld => ?_); refine with_tab tabG4_ok (fun HT_ => ?_)
        have hb : Below wx.heap.size wx wx.drew := below_drew (Below.refl _ _)
        have HX := Aside0.mk hb
        clear hb
        refine pure_ (i := 0) (N := some 14) (v := ?_) (a' := ?_) #[true, false, false, false, false, false, false, false, false, false, false] rfl rfl (any_of HT_.out (by kernel_rfl)) (fun _ _ _ h => h) (Or.inl ⟨by rfl, ?_⟩) ?_ ?_
        rotate_left
        · intro w'
          go_simp
          with_reducible rfl
        rotate_left
        · simp only [Act.put, List.setIfInBounds_toArray, List.set_cons_zero, List.set_cons_succ]
          rfl
        refine take_ (i := 1) (N := some 15) (v := ?_) (a' := ?_) #[true, true, false, false, false, false, false, false, false, false, false] rfl rfl (take_of HT_.out (by kernel_rfl)) (fun _ _ _ h => h) (Or.inl ⟨by rfl, ?_⟩) hHeld ?_ ?_
        rotate_left
        · intro w' hw'
          obtain ⟨s0, s1, s2, s3⟩ := hw'
          go_simp
          with_reducible rfl
        rotate_left
        · simp only [Act.put, List.setIfInBounds_toArray, List.set_cons_zero, List.set_cons_succ]
          rfl
        refine pure_ (i := 2) (N := some 16) (v := ?_) (a' := ?_) #[true, true, true, false, false, false, false, false, false, false, false] rfl rfl (any_of HT_.out (by kernel_rfl)) (fun _ _ _ h => h) (Or.inl ⟨by rfl, ?_⟩) ?_ ?_
        rotate_left
        · intro w'
          go_simp
          with_reducible rfl
        rotate_left
        · simp only [Act.put, List.setIfInBounds_toArray, List.set_cons_zero, List.set_cons_succ]
          rfl
        refine pure_ (i := 3) (N := some 17) (v := (.bool true)) (a' := ?_) #[true, true, true, true, false, false, false, false, false, false, false] rfl rfl (any_of HT_.out (by kernel_rfl)) (fun _ _ _ h => h) (Or.inl ⟨by rfl, ?_⟩) ?_ ?_
        · intro w'
          go_simp
          first | done | rfl | (simp only [hne, Result.andThen]; done) | (simp [hne]; done) | trace_state
        rotate_left
        · simp only [Act.put, List.setIfInBounds_toArray, List.set_cons_zero, List.set_cons_succ]
          rfl
        refine pure_ (i := 4) (N := some 18) (v := ?_) (a' := ?_) #[true, true, true, true, true, false, false, false, false, false, false] rfl rfl (any_of HT_.out (by kernel_rfl)) (fun _ _ _ h => h) (Or.inl ⟨by rfl, ?_⟩) ?_ ?_
        rotate_left
        · intro w'
          go_simp
          with_reducible rfl
        rotate_left
        · simp only [Act.put, List.setIfInBounds_toArray, List.set_cons_zero, List.set_cons_succ]
          rfl
        refine pure_ (i := 5) (N := some 19) (v := ?_) (a' := ?_) #[true, true, true, true, true, true, false, false, false, false, false] rfl rfl (any_of HT_.out (by kernel_rfl)) (fun _ _ _ h => h) (Or.inl ⟨by rfl, ?_⟩) ?_ ?_
        rotate_left
        · intro w'
          go_simp
          with_reducible rfl
        rotate_left
        · simp only [Act.put, List.setIfInBounds_toArray, List.set_cons_zero, List.set_cons_succ]
          rfl
        refine pure_ (i := 6) (N := some 20) (v := ?_) (a' := ?_) #[true, true, true, true, true, true, true, false, false, false, false] rfl rfl (any_of HT_.out (by kernel_rfl)) (fun _ _ _ h => h) (Or.inl ⟨by rfl, ?_⟩) ?_ ?_
        rotate_left
        · intro w'
          go_simp
          with_reducible rfl
        rotate_left
        · simp only [Act.put, List.setIfInBounds_toArray, List.set_cons_zero, List.set_cons_succ]
          rfl
        refine take_ (i := 7) (N := some 21) (v := ?_) (a' := ?_) #[true, true, true, true, true, true, true, true, false, false, false] rfl rfl (take_of HT_.out (by kernel_rfl)) (fun _ _ _ h => h) (Or.inl ⟨by rfl, ?_⟩) hHeld ?_ ?_
        rotate_left
        · intro w' hw'
          obtain ⟨s0, s1, s2, s3⟩ := hw'
          go_simp
          with_reducible rfl
        rotate_left
        · simp only [Act.put, List.setIfInBounds_toArray, List.set_cons_zero, List.set_cons_succ]
          rfl
        refine one_ (i := 8) (N := some 22) #[true, true, true, true, true, true, true, true, true, false, false] rfl rfl (one_of HT_.out (by kernel_rfl)) (by decide) (fun Kq_ hK_ => ?_)
        refine goesV (.tmp 19) #[.pointer (some ⟨g, 0, none⟩), .pointer (some ⟨h, 0, none⟩)] #[.int .u64 pm] Try.func16 (by kernel_rfl) rfl #[.int .u64 pm, .pointer (some ⟨g, 0, none⟩), .pointer (some ⟨h, 0, none⟩)] (by rfl) rfl rfl rfl (by (try simp only [List.map_toArray, List.map_cons, List.map_nil]); first | done | rfl) rfl ?_
        with_reducible refine (again1_any a b pm g h _ (pw_cell_below HX.out HF0.out) (pw_cell_below HX.out HF1.out)).mono ?_
        rintro e w' ⟨rfl, rfl⟩
        refine ⟨_, rfl, ?_⟩
        refine hK_.out _ _ ⟨pw_cell_below HX.out HY0.out, pw_cell_below HX.out HY1.out, pw_cell_below HX.out HF0.out, pw_cell_below HX.out HF1.out⟩ (fun hHeld => ?_)
        clear hK_ Kq_
        refine norm_ (a' := ?_) ?_ ?_
        rotate_left
        · show Act.put _ (some 22) _ = _
          simp only [Act.put, List.setIfInBounds_toArray, List.set_cons_zero, List.set_cons_succ]
          rfl
        refine pure_ (i := 9) (N := some 23) (v := ?_) (a' := ?_) #[true, true, true, true, true, true, true, true, true, true, false] rfl rfl (any_of HT_.out (by kernel_rfl)) (fun _ _ _ h => h) (Or.inl ⟨by rfl, ?_⟩) ?_ ?_
        rotate_left
        · intro w'
          go_simp
          with_reducible rfl
        rotate_left
        · simp only [Act.put, List.setIfInBounds_toArray, List.set_cons_zero, List.set_cons_succ]
          rfl
        refine pure_ (i := 10) (N := some 24) (v := (.bool true)) (a' := ?_) #[true, true, true, true, true, true, true, true, true, true, true] rfl rfl (any_of HT_.out (by kernel_rfl)) (fun _ _ _ h => h) (Or.inl ⟨by rfl, ?_⟩) ?_ ?_
        · intro w'
          go_simp
          first | done | rfl | (simp [HBN.out]; done) | (rw [HBN.out]; cases pb <;> rfl) | trace_state
        rotate_left
        · simp only [Act.put, List.setIfInBounds_toArray, List.set_cons_zero, List.set_cons_succ]
          rfl
        refine done_ (done_of HT_.out (by kernel_rfl)) ?_
        have HXX := Aside0.mk (HBX.out.trans (HX.out.mono HBX.out.size))
        clear HT_ hHeld
        go_wp2
        go_ret
        exact ⟨retB HNO.out.symm, HB1.out.trans ((HB.out.trans (HXX.out.mono HB.out.size)).mono HB1.out.size)⟩
    · obtain rfl : k = L.length := by omega
      have HNO := Aside0.mk (show againB L (badW a b) = true from decide_eq_true (fun p hp => HP.out p (by rw [List.take_length]; exact hp)))
      go_wp2
      go_ret
      exact ⟨retB HNO.out.symm, HB1.out.trans (HB.out.mono HB1.out.size)⟩

set_option maxHeartbeats 1600000 in
set_option maxRecDepth 100000 in
theorem again_nil (m : Int) (ok : Bool) (A4 : Option Addr) (n4 c4 : Nat) (L : List (Int × Bool)) (w : World)  (hr4 : Kd.C Lk w A4 n4 L) (hL : ∀ p ∈ L, (Lit.int .u64 p.1).wf = true)  :
    Calls Try.prog 15 #[.agg #[.int .u64 m, .bool ok, .slice A4 n4 c4], .nilFunc] w fun e w' => e = .returned (.bool (againB L badN)) ∧ Below w.heap.size w w' := by
  obtain rfl := C_len hr4
  have hmx4 := C_max hr4
  have HR4 := Aside0.mk hr4
  have HWL := Aside0.mk hL
  clear hr4 hL
  have hne : ∀ W : World, (binOp .neq 38 (.nilFunc) .nilFunc).run Try.prog W = .ok (.bool false) W := fun _ => rfl
  go_enter Try.func15, Try.ntmps15
  go_wp2
  obtain ⟨W1, hW1⟩ : ∃ W1, W1 = w.alloc (.cells #[.int .u64 m, .bool ok, .slice A4 L.length c4] 25) := ⟨_, rfl⟩
  rw [← hW1]
  have HB1 := Aside0.mk (show Below w.heap.size w W1 by rw [hW1]; exact below_alloc (Below.refl _ _) _)
  replace HR4 := Aside0.mk (Kd.C_below HR4.out HB1.out)
  clear hW1
  go_loopg [10] L.length (fun gk v w' => ∃ k : Nat, v = .int .i64 (k : Int) ∧ k + gk = L.length ∧ Aside0 (∀ p ∈ L.take k, p.2 = badN p.1) ∧ Aside0 (Below W1.heap.size W1 w'))
  case atStart => exact ⟨0, rfl, by omega, ⟨fun p hp => by simp at hp⟩, ⟨Below.refl _ _⟩⟩
  case round =>
    obtain ⟨k, rfl, hkg, HP, HB⟩ := hrel
    by_cases hk : k < L.length
    · obtain ⟨a4, rfl, hc1⟩ := C_flat HR4.out (0, false) k hk
      obtain ⟨x, hx⟩ : ∃ x, x = L.getD k (0, false) := ⟨_, rfl⟩
      obtain ⟨pm, pb⟩ := x
      have hget : L[k] = (pm, pb) := by rw [hx, List.getD_eq_getElem?_getD, List.getElem?_eq_getElem hk]; rfl
      rw [← hx] at hc1
      have g0 : wr.cell? (a4.add (k * 2)) = some (.int .u64 pm) := pw_cell_below HB.out (hc1 0 _ rfl)
      have g1 : wr.cell? ⟨(a4.add (k * 2)).block, (a4.add (k * 2)).off + 1, none⟩ = some (.bool pb) := pw_cell_below HB.out ((add_next a4 (k * 2)) ▸ hc1 1 _ rfl)
      have HME := Aside0.mk (show (pm, pb) ∈ L from hget ▸ List.getElem_mem hk)
      have HT := Aside0.mk (show ∀ p, p ∈ L.take (k + 1) ↔ p ∈ L.take k ∨ p = (pm, pb) from fun p => by rw [List.take_succ_eq_append_getElem hk, hget]; simp)
      have hpm0 : 0 ≤ pm := (wf_u64 (HWL.out _ HME.out)).1
      have hk0 : (0 : Int) ≤ (k : Int) := by omega
      have hk1 : (k : Int) < (L.length : Int) := by omega
      clear hc1 hx hget
      by_cases hbn : pb = badN pm
      · have HBN := Aside0.mk hbn
        clear hbn
        go_wp2_with (fail)
        have HBA := Aside0.mk (show Below W1.heap.size W1 (wr.alloc (.cells #[.int .u64 pm, .bool pb] 35)) from HB.out.alloc HB.out.size _)
        have hxx := blk_new wr (.cells #[.int .u64 pm, .bool pb] 35)
        have HY0 := Aside0.mk (blk_cell hxx 0)
        have HY1 := Aside0.mk (blk_cell hxx 1)
        obtain ⟨wx, hwx⟩ : ∃ wx, wx = wr.alloc (.cells #[.int .u64 pm, .bool pb] 35) := ⟨_, rfl⟩
        have HBX := Aside0.mk (show Below wr.heap.size wr wx by rw [hwx]; exact below_alloc (Below.refl _ _) _)
        rw [← hwx] at HY0 HY1 HBA  ⊢
        clear hwx hxx
        refine start_ (n := 11) (S := fun w' => w'.cell? ⟨wr.heap.size, 0, none⟩ = some (.int .u64 pm) ∧ w'.cell? ⟨wr.heap.size, 1, none⟩ = some (.bool pb)) (ds := []) #[false, false, false, false, false, false, false, false, false, false, false] (by kernel_rfl) rfl rfl ⟨pw_cell_below (below_drew (Below.refl _ _)) HY0.out, pw_cell_below (below_drew (Below.refl _ _)) HY1.out⟩ (fun hHeld => ?_); refine with_tab tabG4_ok (fun HT_ => ?_)
        have hb : Below wx.heap.size wx wx.drew := below_drew (Below.refl _ _)
        have HX := Aside0.mk hb
        clear hb
        refine pure_ (i := 0) (N := some 14) (v := ?_) (a' := ?_) #[true, false, false, false, false, false, false, false, false, false, false] rfl rfl (any_of HT_.out (by kernel_rfl)) (fun _ _ _ h => h) (Or.inl ⟨by rfl, ?_⟩) ?_ ?_
        rotate_left
        · intro w'
          go_simp
          with_reducible rfl
        rotate_left
        · simp only [Act.put, List.setIfInBounds_toArray, List.set_cons_zero, List.set_cons_succ]
          rfl
        refine take_ (i := 1) (N := some 15) (v := ?_) (a' := ?_) #[true, true, false, false, false, false, false, false, false, false, false] rfl rfl (take_of HT_.out (by kernel_rfl)) (fun _ _ _ h => h) (Or.inl ⟨by rfl, ?_⟩) hHeld ?_ ?_
        rotate_left
        · intro w' hw'
          obtain ⟨s0, s1⟩ := hw'
          go_simp
          with_reducible rfl
        rotate_left
        · simp only [Act.put, List.setIfInBounds_toArray, List.set_cons_zero, List.set_cons_succ]
          rfl
        refine pure_ (i := 2) (N := some 16) (v := ?_) (a' := ?_) #[true, true, true, false, false, false, false, false, false, false, false] rfl rfl (any_of HT_.out (by kernel_rfl)) (fun _ _ _ h => h) (Or.inl ⟨by rfl, ?_⟩) ?_ ?_
        rotate_left
        · intro w'
          go_simp
          with_reducible rfl
        rotate_left
        · simp only [Act.put, List.setIfInBounds_toArray, List.set_cons_zero, List.set_cons_succ]
          rfl
        refine pure_ (i := 3) (N := some 17) (v := (.bool false)) (a' := ?_) #[true, true, true, true, false, false, false, false, false, false, false] rfl rfl (any_of HT_.out (by kernel_rfl)) (fun _ _ _ h => h) (Or.inl ⟨by rfl, ?_⟩) ?_ ?_
        · intro w'
          go_simp
          first | done | rfl | (simp only [hne, Result.andThen]; done) | (simp [hne]; done) | trace_state
        rotate_left
        · simp only [Act.put, List.setIfInBounds_toArray, List.set_cons_zero, List.set_cons_succ]
          rfl
        refine pure_ (i := 4) (N := some 18) (v := ?_) (a' := ?_) #[true, true, true, true, true, false, false, false, false, false, false] rfl rfl (any_of HT_.out (by kernel_rfl)) (fun _ _ _ h => h) (Or.inl ⟨by rfl, ?_⟩) ?_ ?_
        rotate_left
        · intro w'
          go_simp
          with_reducible rfl
        rotate_left
        · simp only [Act.put, List.setIfInBounds_toArray, List.set_cons_zero, List.set_cons_succ]
          rfl
        refine pure_ (i := 5) (N := some 19) (v := undef) (a' := ?_) #[true, true, true, true, true, true, false, false, false, false, false] rfl rfl (any_of HT_.out (by kernel_rfl)) (fun _ _ _ h => h) (Or.inr ⟨by rfl, rfl⟩) ?_ ?_
        rotate_left
        · simp only [Act.put, List.setIfInBounds_toArray, List.set_cons_zero, List.set_cons_succ]
          rfl
        refine pure_ (i := 6) (N := some 20) (v := undef) (a' := ?_) #[true, true, true, true, true, true, true, false, false, false, false] rfl rfl (any_of HT_.out (by kernel_rfl)) (fun _ _ _ h => h) (Or.inr ⟨by rfl, rfl⟩) ?_ ?_
        rotate_left
        · simp only [Act.put, List.setIfInBounds_toArray, List.set_cons_zero, List.set_cons_succ]
          rfl
        refine pure_ (i := 7) (N := some 21) (v := undef) (a' := ?_) #[true, true, true, true, true, true, true, true, false, false, false] rfl rfl (any_of HT_.out (by kernel_rfl)) (fun _ _ _ h => h) (Or.inr ⟨by rfl, rfl⟩) ?_ ?_
        rotate_left
        · simp only [Act.put, List.setIfInBounds_toArray, List.set_cons_zero, List.set_cons_succ]
          rfl
        refine pure_ (i := 8) (N := some 22) (v := undef) (a' := ?_) #[true, true, true, true, true, true, true, true, true, false, false] rfl rfl (any_of HT_.out (by kernel_rfl)) (fun _ _ _ h => h) (Or.inr ⟨by rfl, rfl⟩) ?_ ?_
        rotate_left
        · simp only [Act.put, List.setIfInBounds_toArray, List.set_cons_zero, List.set_cons_succ]
          rfl
        refine pure_ (i := 9) (N := some 23) (v := ?_) (a' := ?_) #[true, true, true, true, true, true, true, true, true, true, false] rfl rfl (any_of HT_.out (by kernel_rfl)) (fun _ _ _ h => h) (Or.inl ⟨by rfl, ?_⟩) ?_ ?_
        rotate_left
        · intro w'
          go_simp
          with_reducible rfl
        rotate_left
        · simp only [Act.put, List.setIfInBounds_toArray, List.set_cons_zero, List.set_cons_succ]
          rfl
        refine pure_ (i := 10) (N := some 24) (v := (.bool false)) (a' := ?_) #[true, true, true, true, true, true, true, true, true, true, true] rfl rfl (any_of HT_.out (by kernel_rfl)) (fun _ _ _ h => h) (Or.inl ⟨by rfl, ?_⟩) ?_ ?_
        · intro w'
          go_simp
          first | done | rfl | (simp [HBN.out]; done) | (rw [HBN.out]; cases pb <;> rfl) | trace_state
        rotate_left
        · simp only [Act.put, List.setIfInBounds_toArray, List.set_cons_zero, List.set_cons_succ]
          rfl
        refine done_ (done_of HT_.out (by kernel_rfl)) ?_
        have HXX := Aside0.mk (HBX.out.trans (HX.out.mono HBX.out.size))
        clear HT_ hHeld
        go_wp2
        go_roundg (gk - 1)
        case measure => omega
        case rel => exact ⟨k + 1, by go_num, by omega, ⟨fun p hp => by
          rcases (HT.out p).1 hp with h | rfl
          · exact HP.out p h
          · exact HBN.out⟩, ⟨HB.out.trans (HXX.out.mono HB.out.size)⟩⟩
      · have HNO := Aside0.mk (show againB L badN = false from decide_eq_false (fun h => hbn (h _ HME.out)))
        have HBN := Aside0.mk (show pb = !(badN pm) by cases pb <;> cases hq : badN pm <;> simp_all)
        clear hbn
        go_wp2_with (fail)
        have HBA := Aside0.mk (show Below W1.heap.size W1 (wr.alloc (.cells #[.int .u64 pm, .bool pb] 35)) from HB.out.alloc HB.out.size _)
        have hxx := blk_new wr (.cells #[.int .u64 pm, .bool pb] 35)
        have HY0 := Aside0.mk (blk_cell hxx 0)
        have HY1 := Aside0.mk (blk_cell hxx 1)
        obtain ⟨wx, hwx⟩ : ∃ wx, wx = wr.alloc (.cells #[.int .u64 pm, .bool pb] 35) := ⟨_, rfl⟩
        have HBX := Aside0.mk (show Below wr.heap.size wr wx by rw [hwx]; exact below_alloc (Below.refl _ _) _)
        rw [← hwx] at HY0 HY1 HBA  ⊢
        clear hwx hxx
        refine start_ (n := 11) (S := fun w' => w'.cell? ⟨wr.heap.size, 0, none⟩ = some (.int .u64 pm) ∧ w'.cell? ⟨wr.heap.size, 1, none⟩ = some (.bool pb)) (ds := []) #[false, false, false, false, false, false, false, false, false, false, false] (by kernel_rfl) rfl rfl ⟨pw_cell_below (below_drew (Below.refl _ _)) HY0.out, pw_cell_below (below_drew (Below.refl _ _)) HY1.out⟩ (fun hHeld => ?_); refine with_tab tabG4_ok (fun HT_ => ?_)
        have hb : Below wx.heap.size wx wx.drew := below_drew (Below.refl _ _)
        have HX := Aside0.mk hb
        clear hb
        refine pure_ (i := 0) (N := some 14) (v := ?_) (a' := ?_) #[true, false, false, false, false, false, false, false, false, false, false] rfl rfl (any_of HT_.out (by kernel_rfl)) (fun _ _ _ h => h) (Or.inl ⟨by rfl, ?_⟩) ?_ ?_
        rotate_left
        · intro w'
          go_simp
          with_reducible rfl
        rotate_left
        · simp only [Act.put, List.setIfInBounds_toArray, List.set_cons_zero, List.set_cons_succ]
          rfl
        refine take_ (i := 1) (N := some 15) (v := ?_) (a' := ?_) #[true, true, false, false, false, false, false, false, false, false, false] rfl rfl (take_of HT_.out (by kernel_rfl)) (fun _ _ _ h => h) (Or.inl ⟨by rfl, ?_⟩) hHeld ?_ ?_
        rotate_left
        · intro w' hw'
          obtain ⟨s0, s1⟩ := hw'
          go_simp
          with_reducible rfl
        rotate_left
        · simp only [Act.put, List.setIfInBounds_toArray, List.set_cons_zero, List.set_cons_succ]
          rfl
        refine pure_ (i := 2) (N := some 16) (v := ?_) (a' := ?_) #[true, true, true, false, false, false, false, false, false, false, false] rfl rfl (any_of HT_.out (by kernel_rfl)) (fun _ _ _ h => h) (Or.inl ⟨by rfl, ?_⟩) ?_ ?_
        rotate_left
        · intro w'
          go_simp
          with_reducible rfl
        rotate_left
        · simp only [Act.put, List.setIfInBounds_toArray, List.set_cons_zero, List.set_cons_succ]
          rfl
        refine pure_ (i := 3) (N := some 17) (v := (.bool false)) (a' := ?_) #[true, true, true, true, false, false, false, false, false, false, false] rfl rfl (any_of HT_.out (by kernel_rfl)) (fun _ _ _ h => h) (Or.inl ⟨by rfl, ?_⟩) ?_ ?_
        · intro w'
          go_simp
          first | done | rfl | (simp only [hne, Result.andThen]; done) | (simp [hne]; done) | trace_state
        rotate_left
        · simp only [Act.put, List.setIfInBounds_toArray, List.set_cons_zero, List.set_cons_succ]
          rfl
        refine pure_ (i := 4) (N := some 18) (v := ?_) (a' := ?_) #[true, true, true, true, true, false, false, false, false, false, false] rfl rfl (any_of HT_.out (by kernel_rfl)) (fun _ _ _ h => h) (Or.inl ⟨by rfl, ?_⟩) ?_ ?_
        rotate_left
        · intro w'
          go_simp
          with_reducible rfl
        rotate_left
        · simp only [Act.put, List.setIfInBounds_toArray, List.set_cons_zero, List.set_cons_succ]
          rfl
        refine pure_ (i := 5) (N := some 19) (v := undef) (a' := ?_) #[true, true, true, true, true, true, false, false, false, false, false] rfl rfl (any_of HT_.out (by kernel_rfl)) (fun _ _ _ h => h) (Or.inr ⟨by rfl, rfl⟩) ?_ ?_
        rotate_left
        · simp only [Act.put, List.setIfInBounds_toArray, List.set_cons_zero, List.set_cons_succ]
          rfl
        refine pure_ (i := 6) (N := some 20) (v := undef) (a' := ?_) #[true, true, true, true, true, true, true, false, false, false, false] rfl rfl (any_of HT_.out (by kernel_rfl)) (fun _ _ _ h => h) (Or.inr ⟨by rfl, rfl⟩) ?_ ?_
        rotate_left
        · simp only [Act.put, List.setIfInBounds_toArray, List.set_cons_zero, List.set_cons_succ]
          rfl
        refine pure_ (i := 7) (N := some 21) (v := undef) (a' := ?_) #[true, true, true, true, true, true, true, true, false, false, false] rfl rfl (any_of HT_.out (by kernel_rfl)) (fun _ _ _ h => h) (Or.inr ⟨by rfl, rfl⟩) ?_ ?_
        rotate_left
        · simp only [Act.put, List.setIfInBounds_toArray, List.set_cons_zero, List.set_cons_succ]
          rfl
        refine pure_ (i := 8) (N := some 22) (v := undef) (a' := ?_) #[true, true, true, true, true, true, true, true, true, false, false] rfl rfl (any_of HT_.out (by kernel_rfl)) (fun _ _ _ h => h) (Or.inr ⟨by rfl, rfl⟩) ?_ ?_
        rotate_left
        · simp only [Act.put, List.setIfInBounds_toArray, List.set_cons_zero, List.set_cons_succ]
          rfl
        refine pure_ (i := 9) (N := some 23) (v := ?_) (a' := ?_) #[true, true, true, true, true, true, true, true, true, true, false] rfl rfl (any_of HT_.out (by kernel_rfl)) (fun _ _ _ h => h) (Or.inl ⟨by rfl, ?_⟩) ?_ ?_
        rotate_left
        · intro w'
          go_simp
          with_reducible rfl
        rotate_left
        · simp only [Act.put, List.setIfInBounds_toArray, List.set_cons_zero, List.set_cons_succ]
          rfl
        refine pure_ (i := 10) (N := some 24) (v := (.bool true)) (a' := ?_) #[true, true, true, true, true, true, true, true, true, true, true] rfl rfl (any_of HT_.out (by kernel_rfl)) (fun _ _ _ h => h) (Or.inl ⟨by rfl, ?_⟩) ?_ ?_
        · intro w'
          go_simp
          first | done | rfl | (simp [HBN.out]; done) | (rw [HBN.out]; cases pb <;> rfl) | trace_state
        rotate_left
        · simp only [Act.put, List.setIfInBounds_toArray, List.set_cons_zero, List.set_cons_succ]
          rfl
        refine done_ (done_of HT_.out (by kernel_rfl)) ?_
        have HXX := Aside0.mk (HBX.out.trans (HX.out.mono HBX.out.size))
        clear HT_ hHeld
        go_wp2
        go_ret
        exact ⟨retB HNO.out.symm, HB1.out.trans ((HB.out.trans (HXX.out.mono HB.out.size)).mono HB1.out.size)⟩
    · obtain rfl : k = L.length := by omega
      have HNO := Aside0.mk (show againB L badN = true from decide_eq_true (fun p hp => HP.out p (by rw [List.take_length]; exact hp)))
      go_wp2
      go_ret
      exact ⟨retB HNO.out.symm, HB1.out.trans (HB.out.mono HB1.out.size)⟩

end Go.Proofs.Ytoojmbifkjocfaa.Proof
