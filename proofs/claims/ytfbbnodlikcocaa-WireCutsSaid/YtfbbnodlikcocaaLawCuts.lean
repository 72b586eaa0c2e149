/- WireCuts answers true for every two lists of parts and every place of a cut. No conditions. -/
import Derived.Test.YtfbbnodlikcocaaWireRef
import Derived.Test.YtfbbnodlikcocaaWireCutsPlain
import Derived.Test.YtfbbnodlikcocaaI64
import Derived.Outline
import Derived.IntWalk
import Derived.Deep.DeepMust
namespace Go.Proofs.Ytfbbnodlikcocaa.LawCuts
open Go.RowKit Go.Proofs.YtfbbnodlikcocaaW.PrintWords Go.Proofs.YtfbbnodlikcocaaW.PrintLast Go.Proofs.YtfbbnodlikcocaaW.PrintMore Go.Proofs.Ytfbbnodlikcocaa.Kit Go.Proofs.Ytfbbnodlikcocaa.Plain Go.Proofs.Ytfbbnodlikcocaa.Wire
set_option linter.unusedVariables false
set_option linter.unusedSimpArgs false
def tabW11 : Bool × List (List Nat × List Nat) := (true, [([], []), ([], []), ([], []), ([1, 2], [1, 2]), ([3], [3]), ([4], [4]), ([], []), ([], []), ([6, 7], [6, 7]), ([8], [8]), ([9], [9]), ([5, 10], [5, 10]), ([11], [11]), ([0, 12], [0, 12]), ([13, 13, 0, 1, 2, 3, 4, 5, 6, 7, 8, 9, 10, 11, 12, 13], [0, 1, 13])])
theorem tabW11_ok : rtab .any (opsOf Try.f9 11) = tabW11 := by kernel_rfl

abbrev OwF (wf w : World) (base : Nat) (v : Value) (l : List (List Int)) : Prop := Kd.R (Kd.fixed Rw wf) 22 w base (fun _ => True) v l
theorem OwF_slice {wf w : World} {base : Nat} {v : Value} {l : List (List Int)} (h : OwF wf w base v l) (hb : Below wf.heap.size wf w) : ∃ A c, v = .slice A l.length c ∧ l.length ≤ c ∧ Kd.C Rw w A l.length l := by
  obtain ⟨A, c, rfl⟩ := Kd.R_slice h
  obtain ⟨h1, h2, h3⟩ := Kd.R_reads' h
  exact ⟨A, c, rfl, h2, ReadsRow.imp_ h3 (Below.refl _ _) (fun _ _ hp => Rw.K_below hb hp)⟩
section
variable {P : Program} {ops : Array Oper} {rest : List Oper} {o : Oper} {a : Act} {Q : Exit → Act → World → Prop}
theorem litF {w0 W : World} (wf : World) (base : Nat) (hgd : o.guard = none) {N : Tmp} (hd : o.dst = some N)
    (hrun : (execOp a.eval o).run P W = .ok (.value (.slice (some ⟨W.heap.size, 0, none⟩) 0 0)) (W.alloc (.cells #[] 22)))
    (HB : Below base w0 W) (hbase : base ≤ W.heap.size)
    (h : ∀ v1 w1, OwF wf w1 base v1 [] → Below base w0 w1 → (∃ b, v1.ownBlock = some b ∧ W.heap.size ≤ b) → Below W.heap.size W w1 → wpList P ops Q rest (a.put o.dst v1) w1) : wpList P ops Q (o :: rest) a W :=
  Kd.R_lit (Kd.fixed Rw wf) base 22 hgd hd (xs := []) (inner := []) (ok := fun _ => True) (okp := fun _ => True) hrun (by constructor <;> simp) (fun _ hk => hk) trivial HB hbase (by simp) (fun v1 w1 h1 h2 h3 h4 => h v1 w1 h1 h2 h4 ⟨h3.os, h3.tape, h3.output, h3.size, fun i hi => h3.block i hi (by simp)⟩)
theorem appF {w0 W : World} (wf : World) (base : Nat) (hgd : o.guard = none) (s x : Operand)
    (ho : o.op = .call { callee := .builtin .append, args := #[s, x], argTypes := #[34, 34] }) (hP : P = Try.prog)
    (v : Value) (xs ys : List (List Int)) (A : Option Addr) (m c : Nat) (hs : a.eval s = v) (hx : a.eval x = .slice A m c)
    (HO : OwF wf W base v xs) (HR : Kd.C Rw wf A m ys) (HW : Below wf.heap.size wf W) (HB : Below base w0 W) (hbase : base ≤ W.heap.size) (hl : xs.length + m ≤ 1000000)
    (h : ∀ v1 w1, OwF wf w1 base v1 (xs ++ ys) → Below base w0 w1 → W.grownBy w1 v.ownBlock → (v1.ownBlock = v.ownBlock ∨ ∃ b, v1.ownBlock = some b ∧ W.heap.size ≤ b) → wpList P ops Q rest (a.put o.dst v1) w1) :
    wpList P ops Q (o :: rest) a W := by
  subst hP
  exact Kd.R_append_rows (Kd.fixed Rw wf) base hgd s x 34 22 (.slice none 0 0) 24 ho Try.underlying34 infoRow rfl Nat.one_pos (by omega) v xs ys A m c (fun _ => True) (fun _ => False) hs hx HO (ReadsRow.imp_ HR HW (fun _ _ hp => hp)) (fun _ _ hh => hh) (fun _ hk => hk.elim) (fun _ _ => trivial) HB hbase (by omega) h
end
theorem cutRows (A : Option Addr) (n c j : Nat) (hj : j ≤ n) (hc : n ≤ c) (k : IntKind) :
    ∀ W : World, (Instr.slice 34 (.slice A n c) none (some (.int k (j : Int))) none).run Try.prog W = .ok (.slice A j c) W := by
  obtain ⟨i0, hi, hzz⟩ := Option.map_eq_some_iff.1 infoRow
  intro W
  have := cut_to 34 22 k Try.underlying34 hi A n c (j : Int) (by omega) (by omega) hc W
  simpa using this
theorem C_takeR {w : World} {A : Option Addr} {n : Nat} {l : List (List Int)} (h : Kd.C Rw w A n l) (m : Nat) (hm : m ≤ n) : Kd.C Rw w A m (l.take m) := by
  obtain rfl := C_len h
  have h1 := Kd.C_take (m := m) h hm
  rwa [show (l.take m).length = m by rw [List.length_take]; omega] at h1
theorem ends_read {W : World} {base n i : Nat} {l : List (List Int)} {A : Option Addr} {ce : Nat} (h : OwI W base (.slice A n ce) (endsI l i)) : n = i + 1 ∧ Kd.C (Kd.int .i64) W A (i + 1) (endsI l i) := by
  obtain ⟨h1, _, h3⟩ := Kd.R_reads' h
  rw [endsI_len] at h1 h3
  exact ⟨h1, h3⟩
theorem ends_cell {W : World} {base i : Nat} {l : List (List Int)} {ae : Addr} {ce : Nat} (h : OwI W base (.slice (some ae) (i + 1) ce) (endsI l i)) (j : Nat) (hj : j ≤ i) : W.cell? (ae.add j) = some (.int .i64 (endAt l j)) := by
  obtain ⟨ad, he, hc⟩ := C_at (ends_read h).2 j (by omega)
  obtain rfl : ae = ad := by simpa using he
  rw [endsI_nth l hj] at hc
  exact hc
theorem ends_cell2 {W : World} {i : Nat} {l : List (List Int)} {ae : Addr} (h : Kd.C (Kd.int .i64) W (some ae) (i + 1) (endsI l i)) (j : Nat) (hj : j ≤ i) : W.cell? (ae.add j) = some (.int .i64 (endAt l j)) := by
  obtain ⟨ad, he, hc⟩ := C_at h j (by omega)
  obtain rfl : ae = ad := by simpa using he
  rw [endsI_nth l hj] at hc
  exact hc
set_option maxHeartbeats 1600000 in
set_option maxRecDepth 100000 in
theorem cuts_any (A0 : Option Addr) (m0 c0 : Nat) (l : List (List Int)) (A1 : Option Addr) (m1 c1 : Nat) (m : List (List Int)) (at_ : Int) (w : World)
    (hr0 : Kd.C Rw w A0 m0 l) (hc0 : m0 ≤ c0) (hr1 : Kd.C Rw w A1 m1 m) (hl : ∀ p ∈ l, Byt p) (hm : ∀ p ∈ m, Byt p) (ha0 : 0 ≤ at_) (ha1 : at_ ≤ 65535) :
    Calls Try.prog 9 #[.slice A0 m0 c0, .slice A1 m1 c1, .int .u16 at_] w fun e w' => e = .returned (.bool true) ∧ Below w.heap.size w w' := by
  obtain rfl := C_len hr0
  obtain rfl := C_len hr1
  have HB := Aside0.mk (Below.refl w.heap.size w)
  have hmax0 := C_max hr0
  have hmax1 := C_max hr1
  have HR0 := Aside0.mk hr0
  have HR1 := Aside0.mk hr1
  have HY := Aside0.mk (And.intro hl hm)
  clear hr0 hr1 hl hm
  by_cases h0 : 10 < l.length
  · have g0 : decide (10 < (l.length : Int)) = true := decide_eq_true (by omega)
    go_enter Try.func9, Try.ntmps9
    go_wp2_with (go_at_call 11; refine (awake_any _).mono ?_; rintro e w1 ⟨rfl, hb⟩; clear HB; have HB := Aside0.mk hb; clear hb)
    go_ret
    exact ⟨rfl, HB.out⟩
  have g0 : decide (10 < (l.length : Int)) = false := decide_eq_false (by omega)
  by_cases h1 : 10 < m.length
  · have g1 : decide (10 < (m.length : Int)) = true := decide_eq_true (by omega)
    go_enter Try.func9, Try.ntmps9
    go_wp2_with (go_at_call 11; refine (awake_any _).mono ?_; rintro e w1 ⟨rfl, hb⟩; clear HB; have HB := Aside0.mk hb; clear hb)
    go_ret
    exact ⟨rfl, HB.out⟩
  have g1 : decide (10 < (m.length : Int)) = false := decide_eq_false (by omega)
  go_enter Try.func9, Try.ntmps9
  go_wp2_with (first
    | (go_at_call 11; refine (awake_any _).mono ?_; rintro e w1 ⟨rfl, hb⟩; clear HB; have HB := Aside0.mk hb; clear hb)
    | ((with_reducible refine gate_dst (N := 31) rfl ?_); refine litI w.heap.size rfl (N := 31) rfl [0] ?hr HB.out HB.out.size (by simp) ?_; (case hr => first | (go_simp; done) | (go_simp; rfl)); intro v2 w2 ho hb0 _ hb; clear HB; have HB := Aside0.mk hb0; have HE := Aside0.mk ho; clear ho hb hb0))
  go_loopg [7, 8] l.length (fun gk v7 v8 w' => ∃ i : Nat, v8 = .int .i64 i ∧ i + gk = l.length ∧ Aside0 ((∀ j, j < i → (nthR l j).length ≤ 300) ∧ endAt l i ≤ 302 * i) ∧ Aside0 (OwI w' w.heap.size v7 (endsI l i)) ∧ Aside0 (Below w.heap.size w w'))
  case atStart => exact ⟨0, rfl, by omega, ⟨fun j hj => by omega, by rw [endAt_zero]; omega⟩, ⟨by rw [endsI_zero]; exact HE.out⟩, HB⟩
  case round =>
    clear HB HE
    obtain ⟨i, rfl, hi, HI, HE, HB⟩ := hrel
    obtain ⟨AE, ce, rfl, hce, hE⟩ := OwI_slice HE.out
    rw [endsI_len] at HE hE hce ⊢
    obtain ⟨ae, rfl, _⟩ := C_at hE 0 (by omega)
    clear hE hce
    by_cases hlt : i < l.length
    · obtain ⟨ad, B, bc, rfl, hcw, hbc, hrb⟩ := C_row HR0.out i hlt
      have hc := pw_cell_below HB.out hcw
      clear hbc hrb
      obtain ⟨p, hp⟩ : ∃ p, p = nthR l i := ⟨_, rfl⟩
      rw [← hp] at hc hcw
      by_cases h3 : 300 < p.length
      · clear hp hcw
        go_wp2
        go_ret
        exact ⟨rfl, HB.out⟩
      · have e1 : endAt l (i + 1) = endAt l i + 2 + p.length := by rw [endAt_succ hlt, hp]
        have HI2 : Aside0 ((∀ j, j < i + 1 → (nthR l j).length ≤ 300) ∧ endAt l (i + 1) ≤ 302 * (i + 1)) := ⟨fun j hj => by
          rcases Nat.lt_or_ge j i with h | h
          · exact HI.out.1 j h
          · obtain rfl : j = i := by omega
            rw [← hp]; omega, by have := HI.out.2; omega⟩
        have we1 : IntKind.i64.wrap ((endAt l i : Int) + 2) = (endAt l i : Int) + 2 := IntWalk.i64_in _ (by have := HI.out.2; omega)
        have we2 : IntKind.i64.wrap ((endAt l i : Int) + 2 + (p.length : Int)) = ((endAt l (i + 1) : Nat) : Int) := by rw [IntWalk.i64_in _ (by have := HI.out.2; omega)]; omega
        have hi0 : (0 : Int) ≤ (i : Int) := by omega
        have hi2 : (i : Int) < (i : Int) + 1 := by omega
        have hi1 : (i : Int) < (l.length : Int) := by omega
        clear hp e1 hc
        have hc := pw_cell_below HB.out hcw
        go_wp2_with (fail)
        clear hc
        refine start_ (n := 15) (S := fun w' => w'.cell? (ad.add i) = some (.slice B p.length bc)) (ds := []) #[false, false, false, false, false, false, false, false, false, false, false, false, false, false, false] (by kernel_rfl) rfl rfl (pw_cell_below (below_drew HB.out) hcw) (fun hHeld => ?_); refine with_tab tabW11_ok (fun HT_ => ?_)
        have hb : Below wr.heap.size wr wr.drew := below_drew (Below.refl _ _)
        replace HE := Aside0.mk (Kd.R_below HE.out hb)
        replace HB := Aside0.mk (HB.out.trans (hb.mono HB.out.size))
        clear hb
        have xE := ends_cell HE.out i (Nat.le_refl i)
        refine pure_ (i := 0) (N := some 44) (v := ?_) (a' := ?_) #[true, false, false, false, false, false, false, false, false, false, false, false, false, false, false] rfl rfl (any_of HT_.out (by kernel_rfl)) (fun _ _ _ h => h) (Or.inl ⟨by rfl, ?_⟩) ?_ ?_
        rotate_left
        · intro w'
          go_simp
          with_reducible rfl
        rotate_left
        · simp only [Act.put, List.setIfInBounds_toArray, List.set_cons_zero, List.set_cons_succ]
          rfl
        refine pure_ (i := 1) (N := some 45) (v := ?_) (a' := ?_) #[true, true, false, false, false, false, false, false, false, false, false, false, false, false, false] rfl rfl (any_of HT_.out (by kernel_rfl)) (fun _ _ _ h => h) (Or.inl ⟨by rfl, ?_⟩) ?_ ?_
        rotate_left
        · intro w'
          go_simp
          with_reducible rfl
        rotate_left
        · simp only [Act.put, List.setIfInBounds_toArray, List.set_cons_zero, List.set_cons_succ]
          rfl
        refine pure_ (i := 2) (N := some 46) (v := ?_) (a' := ?_) #[true, true, true, false, false, false, false, false, false, false, false, false, false, false, false] rfl rfl (any_of HT_.out (by kernel_rfl)) (fun _ _ _ h => h) (Or.inl ⟨by rfl, ?_⟩) ?_ ?_
        rotate_left
        · intro w'
          go_simp
          with_reducible rfl
        rotate_left
        · simp only [Act.put, List.setIfInBounds_toArray, List.set_cons_zero, List.set_cons_succ]
          rfl
        refine pure_ (i := 3) (N := some 47) (v := ?_) (a' := ?_) #[true, true, true, true, false, false, false, false, false, false, false, false, false, false, false] rfl rfl (any_of HT_.out (by kernel_rfl)) (fun _ _ _ h => h) (Or.inl ⟨by rfl, ?_⟩) ?_ ?_
        rotate_left
        · intro w'
          go_simp
          with_reducible rfl
        rotate_left
        · simp only [Act.put, List.setIfInBounds_toArray, List.set_cons_zero, List.set_cons_succ]
          rfl
        refine pure_ (i := 6) (N := some 50) (v := ?_) (a' := ?_) #[true, true, true, true, false, false, true, false, false, false, false, false, false, false, false] rfl rfl (any_of HT_.out (by kernel_rfl)) (fun _ _ _ h => h) (Or.inl ⟨by rfl, ?_⟩) ?_ ?_
        rotate_left
        · intro w'
          go_simp
          with_reducible rfl
        rotate_left
        · simp only [Act.put, List.setIfInBounds_toArray, List.set_cons_zero, List.set_cons_succ]
          rfl
        refine pure_ (i := 7) (N := some 51) (v := ?_) (a' := ?_) #[true, true, true, true, false, false, true, true, false, false, false, false, false, false, false] rfl rfl (any_of HT_.out (by kernel_rfl)) (fun _ _ _ h => h) (Or.inl ⟨by rfl, ?_⟩) ?_ ?_
        rotate_left
        · intro w'
          go_simp
          with_reducible rfl
        rotate_left
        · simp only [Act.put, List.setIfInBounds_toArray, List.set_cons_zero, List.set_cons_succ]
          rfl
        refine pure_ (i := 8) (N := some 52) (v := ?_) (a' := ?_) #[true, true, true, true, false, false, true, true, true, false, false, false, false, false, false] rfl rfl (any_of HT_.out (by kernel_rfl)) (fun _ _ _ h => h) (Or.inl ⟨by rfl, ?_⟩) ?_ ?_
        rotate_left
        · intro w'
          go_simp
          with_reducible rfl
        rotate_left
        · simp only [Act.put, List.setIfInBounds_toArray, List.set_cons_zero, List.set_cons_succ]
          rfl
        refine take_ (i := 9) (N := some 53) (v := ?_) (a' := ?_) #[true, true, true, true, false, false, true, true, true, true, false, false, false, false, false] rfl rfl (take_of HT_.out (by kernel_rfl)) (fun _ _ _ h => h) (Or.inl ⟨by rfl, ?_⟩) hHeld ?_ ?_
        rotate_left
        · intro w' hw'
          skip
          go_simp
          with_reducible rfl
        rotate_left
        · simp only [Act.put, List.setIfInBounds_toArray, List.set_cons_zero, List.set_cons_succ]
          rfl
        refine pure_ (i := 10) (N := some 54) (v := ?_) (a' := ?_) #[true, true, true, true, false, false, true, true, true, true, true, false, false, false, false] rfl rfl (any_of HT_.out (by kernel_rfl)) (fun _ _ _ h => h) (Or.inl ⟨by rfl, ?_⟩) ?_ ?_
        rotate_left
        · intro w'
          go_simp
          with_reducible rfl
        rotate_left
        · simp only [Act.put, List.setIfInBounds_toArray, List.set_cons_zero, List.set_cons_succ]
          rfl
        refine one_ (i := 4) (N := some 48) #[true, true, true, true, true, false, true, true, true, true, true, false, false, false, false] rfl rfl (one_of HT_.out (by kernel_rfl)) (by decide) (fun Kq_ hK_ => ?_)
        refine value_ (w1 := ?_) (v := ?_) (by rfl) rfl ?_ ?_
        rotate_left 2
        · go_simp
          constructor
          · rfl
          · rfl
        refine hK_.out _ _ (pw_cell_below HB.out hcw) (fun hHeld => ?_)
        clear hK_ Kq_
        refine norm_ (a' := ?_) ?_ ?_
        rotate_left
        · show Act.put _ (some 48) _ = _
          simp only [Act.put, List.setIfInBounds_toArray, List.set_cons_zero, List.set_cons_succ]
          rfl
        refine pure_ (i := 5) (N := some 49) (v := (.int .i64 ((endAt l i : Int) + 2))) (a' := ?_) #[true, true, true, true, true, true, true, true, true, true, true, false, false, false, false] rfl rfl (any_of HT_.out (by kernel_rfl)) (fun _ _ _ h => h) (Or.inl ⟨by rfl, ?_⟩) ?_ ?_
        · intro w'
          go_simp
          first | done | exact we1 | omega | (rw [we1]; done) | (simp [we1]; done) | trace_state
        rotate_left
        · simp only [Act.put, List.setIfInBounds_toArray, List.set_cons_zero, List.set_cons_succ]
          rfl
        refine pure_ (i := 11) (N := some 55) (v := (.int .i64 ((endAt l (i + 1) : Nat) : Int))) (a' := ?_) #[true, true, true, true, true, true, true, true, true, true, true, true, false, false, false] rfl rfl (any_of HT_.out (by kernel_rfl)) (fun _ _ _ h => h) (Or.inl ⟨by rfl, ?_⟩) ?_ ?_
        · intro w'
          go_simp
          first | done | exact we2 | omega | (rw [we2]; done) | (simp [we2]; done) | trace_state
        rotate_left
        · simp only [Act.put, List.setIfInBounds_toArray, List.set_cons_zero, List.set_cons_succ]
          rfl
        refine one_ (i := 12) (N := some 56) #[true, true, true, true, true, true, true, true, true, true, true, true, true, false, false] rfl rfl (one_of HT_.out (by kernel_rfl)) (by decide) (fun Kq_ hK_ => ?_)
        refine value_ (w1 := ?_) (v := ?_) (by rfl) rfl ?_ ?_
        rotate_left 2
        · go_simp
          constructor
          · rfl
          · rfl
        refine hK_.out _ _ (pw_cell_below (HB.out.alloc HB.out.size _) hcw) (fun hHeld => ?_)
        clear hK_ Kq_
        refine norm_ (a' := ?_) ?_ ?_
        rotate_left
        · show Act.put _ (some 56) _ = _
          simp only [Act.put, List.setIfInBounds_toArray, List.set_cons_zero, List.set_cons_succ]
          rfl
        refine one_ (i := 13) (N := some 57) #[true, true, true, true, true, true, true, true, true, true, true, true, true, true, false] rfl rfl (one_of HT_.out (by kernel_rfl)) (by decide) (fun Kq_ hK_ => ?_)
        refine Kd.R_append_step (Kd.int .i64) (w0 := w) w.heap.size (by rfl) (.tmp 44) (.tmp 56) 43 3 (.int .i64 0) 8 rfl Try.underlying43 infoI64 rfl (by decide) (by omega) (.slice (some ae) (i + 1) ce) (endsI l i) ((endAt l (i + 1) : Nat) : Int) [.int .i64 ((endAt l (i + 1) : Nat) : Int)] (fun _ => True) (fun _ => False) rfl rfl rfl (fun _ hk => hk.elim) (fun _ _ => trivial) HE.out HB.out HB.out.size (by rw [endsI_len]; omega) ?_
        intro v9 w9 ho hb hg hat
        obtain ⟨A9, c9, rfl⟩ := Kd.R_slice ho
        clear HB
        have HB := Aside0.mk hb
        have HO9 := Aside0.mk ho
        clear ho hb hg hat
        refine hK_.out _ _ (pw_cell_below HB.out hcw) (fun hHeld => ?_)
        clear hK_ Kq_
        refine norm_ (a' := ?_) ?_ ?_
        rotate_left
        · show Act.put _ (some 57) _ = _
          simp only [Act.put, List.setIfInBounds_toArray, List.set_cons_zero, List.set_cons_succ]
          rfl
        refine pure_ (i := 14) (N := some 7) (v := ?_) (a' := ?_) #[true, true, true, true, true, true, true, true, true, true, true, true, true, true, true] rfl rfl (any_of HT_.out (by kernel_rfl)) (fun _ _ _ h => h) (Or.inl ⟨by rfl, ?_⟩) ?_ ?_
        rotate_left
        · intro w'
          go_simp
          with_reducible rfl
        rotate_left
        · simp only [Act.put, List.setIfInBounds_toArray, List.set_cons_zero, List.set_cons_succ]
          rfl
        refine done_ (done_of HT_.out (by kernel_rfl)) ?_
        clear HT_ hHeld
        go_wp2
        go_roundg (gk - 1)
        case measure => omega
        case rel => exact ⟨i + 1, by go_num, by omega, HI2, ⟨by rw [endsI_snoc]; have h9 := HO9.out; rwa [List.length_append, List.length_singleton] at h9⟩, HB⟩
    · obtain rfl : l.length = i := by omega
      have hall : ∀ p ∈ l, p.length ≤ 300 := fun p hp => by
        obtain ⟨j, hj, rfl⟩ := List.getElem_of_mem hp
        rw [← nthR_eq hj]
        exact HI.out.1 j hj
      have hal2 : ∀ p ∈ l, p.length ≤ 65535 := fun p hp => by have := hall p hp; omega
      have hfl2 : (frm l).length ≤ 3020 := by have := HI.out.2; rw [endAt_all] at this; omega
      have HF := Aside0.mk (And.intro hal2 hfl2)
      clear hall hal2 hfl2 HI
      go_wp2
      obtain ⟨wa, rfl⟩ : ∃ wa : World, wa = wr := ⟨_, rfl⟩
      go_loopg [9] m.length (fun gk v w' => ∃ i : Nat, v = .int .i64 i ∧ i + gk = m.length ∧ Aside0 (∀ j, j < i → (nthR m j).length ≤ 300) ∧ wa = w')
      case atStart => exact ⟨0, rfl, by omega, ⟨fun j hj => by omega⟩, rfl⟩
      case round =>
        obtain ⟨i, rfl, hi, HI, rfl⟩ := hrel
        by_cases hlt : i < m.length
        · obtain ⟨ad, B, bc, rfl, hcw, hbc, hrb⟩ := C_row HR1.out i hlt
          have hc := pw_cell_below HB.out hcw
          clear hcw hbc hrb
          obtain ⟨p, hp⟩ : ∃ p, p = nthR m i := ⟨_, rfl⟩
          rw [← hp] at hc
          by_cases h3 : 300 < p.length
          · clear hp
            go_wp2
            go_ret
            exact ⟨rfl, HB.out⟩
          · have HI2 : Aside0 (∀ j, j < i + 1 → (nthR m j).length ≤ 300) := ⟨fun j hj => by
              rcases Nat.lt_or_ge j i with h | h
              · exact HI.out j h
              · obtain rfl : j = i := by omega
                rw [← hp]; omega⟩
            clear hp
            go_wp2
            go_roundg (gk - 1)
            case measure => omega
            case rel => exact ⟨i + 1, rfl, by omega, HI2, rfl⟩
        · obtain rfl : m.length = i := by omega
          have hall : ∀ p ∈ m, p.length ≤ 300 := fun p hp => by
            obtain ⟨j, hj, rfl⟩ := List.getElem_of_mem hp
            rw [← nthR_eq hj]
            exact HI.out j hj
          have hal2 : ∀ p ∈ m, p.length ≤ 65535 := fun p hp => by have := hall p hp; omega
          have hfl := frm_len hall
          have hfl2 : (frm m).length ≤ 3020 := by
            have : m.length * (300 + 2) ≤ 10 * 302 := Nat.mul_le_mul (by omega) (Nat.le_refl _)
            omega
          have HG := Aside0.mk (And.intro hal2 hfl2)
          clear hall hal2 hfl hfl2
          have HEC := Aside0.mk (endAt_all l ▸ ends_cell HE.out l.length (Nat.le_refl _))
          obtain ⟨N, hN⟩ : ∃ N, N = (frm l).length := ⟨_, rfl⟩
          rw [← hN] at HEC
          have hN2 : N ≤ 3020 := by rw [hN]; exact HF.out.2
          obtain ⟨k, hk⟩ : ∃ k : Nat, k = at_.toNat % (N + 1) := ⟨_, rfl⟩
          have hkN : k ≤ N := by have := Nat.mod_lt at_.toNat (show 0 < N + 1 by omega); omega
          have ek0 : at_ % ((N : Int) + 1) = (k : Int) := by
            rw [hk, Int.natCast_emod, Int.toNat_of_nonneg ha0]; rfl
          have hEread := Aside0.mk (ends_read HE.out).2
          clear hk
          have HN := Aside0.mk hN
          clear hN
          obtain ⟨M, hM⟩ : ∃ M, M = (frm m).length := ⟨_, rfl⟩
          have hM2 : M ≤ 3020 := by rw [hM]; exact HG.out.2
          have HM := Aside0.mk hM
          clear hM
          by_cases hq : ∃ q, q ≤ l.length ∧ endAt l q = k
          · obtain ⟨q, hq, hqk⟩ := hq
            have HP : Aside0 (partsS ((frm l).take k) = (l.take q, true)) := ⟨by rw [← hqk, cut_end]; exact partsS_frm (fun p hp => HF.out.1 p (List.mem_of_mem_take hp))⟩
            have HK := Aside0.mk hqk
            clear hqk
            go_wp2_with (first
              | (go_at_call 19; go_must (first
              | ((with_reducible refine (frame_yes A0 _ _ l _ (Kd.C_below HR0.out HB.out) HF.out.1 (by omega)).mono ?_); rintro e w4 ⟨v4, rfl, ho, hb⟩; obtain ⟨A4, c4, rfl, hcap4, hr4⟩ := Ow_slice ho; have hr4n : RdN w4 A4 (frm l).length (frm l) := hr4; rw [← HN.out] at hcap4 hr4n ⊢; have HR4 := Aside0.mk hr4n; have cT := cutTo A4 N c4 k hkN hcap4 .i64; have hkc : k ≤ c4 := Nat.le_trans hkN hcap4; have xEC := pw_cell_below hb HEC.out; replace hEread := Aside0.mk (Kd.C_below hEread.out hb); replace HB := Aside0.mk (HB.out.trans (hb.mono HB.out.size)); clear ho hb hr4 hr4n)
              | ((with_reducible refine (frame_yes A1 _ _ m _ (Kd.C_below HR1.out HB.out) HG.out.1 (by omega)).mono ?_); rintro e w5 ⟨v5, rfl, ho, hb⟩; obtain ⟨A5, c5, rfl, hcap5, hr5⟩ := Ow_slice ho; have hr5n : RdN w5 A5 (frm m).length (frm m) := hr5; rw [← HM.out] at hr5n ⊢; have HR5 := Aside0.mk hr5n; replace HR4 := Aside0.mk (Kd.C_below HR4.out hb); replace xEC := pw_cell_below hb xEC; replace hEread := Aside0.mk (Kd.C_below hEread.out hb); replace HB := Aside0.mk (HB.out.trans (hb.mono HB.out.size)); clear ho hb hr5 hr5n)))
              | (go_at_call 21; go_must (refine (parts_any A4 k c4 _ _ (RdN_take HR4.out k hkN) hkc ((Byt.frm HY.out.1).take k) (by omega)).mono ?_; rintro e w6 ⟨v6, rfl, ho, hb⟩; rw [HP.out] at ho ⊢; obtain ⟨A6, c6, rfl, hcap6, hr6⟩ := OwR_slice ho; have hl6 : (l.take q).length = q := (List.length_take ..).trans (Nat.min_eq_left hq); rw [hl6] at hr6 ⊢; have HR6 := Aside0.mk hr6; clear hr6 hcap6; replace HR4 := Aside0.mk (Kd.C_below HR4.out hb); replace HR5 := Aside0.mk (Kd.C_below HR5.out hb); replace hEread := Aside0.mk (Kd.C_below hEread.out hb); clear xEC cT; replace HB := Aside0.mk (HB.out.trans (hb.mono HB.out.size)); clear ho hb)))
            obtain ⟨wb, rfl⟩ : ∃ wb : World, wb = w6 := ⟨_, rfl⟩
            go_loopg [17, 18] (l.length + 1) (fun gk v17 v18 w' => ∃ (i : Nat) (wh : Int), v17 = .int .i64 wh ∧ v18 = .int .i64 (i : Int) ∧ i + gk = l.length + 1 ∧ Aside0 (wh = if q < i then (q : Int) else -1) ∧ wb = w')
            case atStart => exact ⟨0, -1, rfl, rfl, by omega, ⟨by rw [if_neg (by omega)]⟩, rfl⟩
            case round =>
              obtain ⟨i, wh, rfl, rfl, hig, HWH, rfl⟩ := hrel
              by_cases hi : i < l.length + 1
              · have xE := ends_cell2 hEread.out i (by omega)
                have hi0 : (0 : Int) ≤ (i : Int) := by omega
                have hi1 : (i : Int) < (l.length : Int) + 1 := by omega
                by_cases hiq : i = q
                · subst hiq
                  rw [HK.out] at xE
                  go_wp2
                  go_roundg (gk - 1)
                  case measure => omega
                  case rel => exact ⟨i + 1, (i : Int), rfl, by go_num, by omega, ⟨by rw [if_pos (by omega)]⟩, rfl⟩
                · have hne : ¬ ((endAt l i : Nat) : Int) = (k : Int) := fun h => hiq (endAt_inj (by omega) hq (by rw [HK.out]; omega))
                  go_wp2
                  go_roundg (gk - 1)
                  case measure => omega
                  case rel => exact ⟨i + 1, wh, rfl, by go_num, by omega, ⟨by rw [HWH.out]; split <;> split <;> omega⟩, rfl⟩
              · obtain rfl : i = l.length + 1 := by omega
                obtain rfl : wh = (q : Int) := by rw [HWH.out, if_pos (by omega)]
                have cR := cutRows A0 l.length c0 q hq hc0 .i64
                have hi1 : decide ((l.length : Int) + 1 < (l.length : Int) + 1) = false := decide_eq_false (by omega)
                have hq0 : decide ((0 : Int) ≤ (q : Int)) = true := decide_eq_true (by omega)
                have HYB := Aside0.mk (Byt.frm (l := l ++ m) (fun p hp => (List.mem_append.1 hp).elim (HY.out.1 p) (HY.out.2 p)))
                have HLB := Aside0.mk (show (frm (l ++ m)).length ≤ 1000000 by rw [frm_append, List.length_append, ← HN.out, ← HM.out]; omega)
                have HPB := Aside0.mk (partsS_frm (l := l ++ m) (fun p hp => (List.mem_append.1 hp).elim (HF.out.1 p) (HG.out.1 p)))
                go_wp2_with (first 
              | (go_at_call 23; (with_reducible refine (rows_yes A6 q c6 (l.take q) A0 q c0 (l.take q) _ HR6.out (C_takeR (Kd.C_below HR0.out HB.out) q hq) rfl).mono ?_); rintro e wz ⟨rfl, hb⟩; replace HR4 := Aside0.mk (Kd.C_below HR4.out hb); replace HR5 := Aside0.mk (Kd.C_below HR5.out hb); replace HB := Aside0.mk (HB.out.trans (hb.mono HB.out.size)); clear hb HR6)
              | ((with_reducible refine gate_dst (N := 138) rfl ?_); go_must (refine litB wz.heap.size rfl (N := 138) rfl [] ?hr (Below.refl _ _) (Nat.le_refl _) (by simp) ?_; (case hr => first | (go_simp; done) | (go_simp; rfl)); intro v7 w7 ho hb0 hn hb; have HZ := Aside0.mk hb0; have HO := Aside0.mk ho; clear ho hb hb0 hn))
              | ((with_reducible refine gate_dst (N := 140) rfl ?_); go_must (refine appB wz.heap.size rfl (.tmp 138) (.tmp 139) rfl rfl v7 [] (frm l) A4 N c4 rfl rfl HO.out (Kd.C_below HR4.out HZ.out) HZ.out HZ.out.size (by simp; omega) ?_; intro v8 w8 ho hb hg hat; clear HO HZ; have HZ := Aside0.mk hb; have HO := Aside0.mk ho; clear ho hb hg hat))
              | ((with_reducible refine gate_dst (N := 142) rfl ?_); go_must (refine appB wz.heap.size rfl (.tmp 140) (.tmp 141) rfl rfl v8 ([] ++ frm l) (frm m) A5 M c5 rfl rfl HO.out (Kd.C_below HR5.out HZ.out) HZ.out HZ.out.size (by rw [List.nil_append, ← HN.out]; omega) ?_; intro v9 w9 ho hb hg hat; rw [List.nil_append, ← frm_append] at ho; obtain ⟨A9, c9, rfl, hcap9, hr9⟩ := Ow_slice ho; clear HO HZ; have HR9 := Aside0.mk hr9; have HC9 := Aside0.mk hcap9; replace HB := Aside0.mk (HB.out.trans (hb.mono HB.out.size)); clear ho hb hg hat hr9 hcap9))
              | (go_at_call 21; go_must (refine (parts_any A9 _ c9 _ _ HR9.out HC9.out HYB.out HLB.out).mono ?_; rintro e w10 ⟨v10, rfl, ho, hb⟩; rw [HPB.out] at ho ⊢; obtain ⟨A10, c10, rfl, hcap10, hr10⟩ := OwR_slice ho; obtain ⟨N10, hN10⟩ : ∃ N10, N10 = (l ++ m).length := ⟨_, rfl⟩; rw [← hN10] at hr10 ⊢; have HR10 := Aside0.mk hr10; have HN10 := Aside0.mk hN10; replace HB := Aside0.mk (HB.out.trans (hb.mono HB.out.size)); clear ho hb hr10 hcap10 hN10))
              | ((with_reducible refine gate_dst (N := 149) rfl ?_); (try (refine gate_guard (by rfl) ?_; dsimp only)); go_must (refine litF w w10.heap.size rfl (N := 149) rfl ?hr (Below.refl _ _) (Nat.le_refl _) ?_; (case hr => first | (go_simp; done) | (go_simp; rfl)); intro v11 w11 ho hb0 hn hb; have HZ := Aside0.mk hb0; have HO := Aside0.mk ho; clear ho hb hb0 hn))
              | ((with_reducible refine gate_dst (N := 151) rfl ?_); (try (refine gate_guard (by rfl) ?_; dsimp only)); go_must (refine appF w w10.heap.size rfl (.tmp 149) (.tmp 150) rfl rfl v11 [] l A0 l.length c0 rfl rfl HO.out HR0.out (HB.out.trans (HZ.out.mono HB.out.size)) HZ.out HZ.out.size (by simp; omega) ?_; intro v12 w12 ho hb hg hat; clear HO HZ; have HZ := Aside0.mk hb; have HO := Aside0.mk ho; clear ho hb hg hat))
              | ((with_reducible refine gate_dst (N := 153) rfl ?_); (try (refine gate_guard (by rfl) ?_; dsimp only)); go_must (refine appF w w10.heap.size rfl (.tmp 151) (.tmp 152) rfl rfl v12 ([] ++ l) m A1 m.length c1 rfl rfl HO.out HR1.out (HB.out.trans (HZ.out.mono HB.out.size)) HZ.out HZ.out.size (by simp; omega) ?_; intro v13 w13 ho hb hg hat; rw [List.nil_append] at ho; replace HB := Aside0.mk (HB.out.trans (hb.mono HB.out.size)); obtain ⟨A13, c13, rfl, hcap13, hr13⟩ := OwF_slice ho HB.out; replace HR10 := Aside0.mk (Kd.C_below HR10.out hb); rw [← HN10.out] at hr13 ⊢; have HR13 := Aside0.mk hr13; clear HO HZ ho hb hg hat hcap13 hr13))
              | (go_at_call 23; go_must (refine (rows_yes A10 N10 c10 (l ++ m) A13 N10 c13 (l ++ m) _ HR10.out HR13.out rfl).mono ?_; rintro e w14 ⟨rfl, hb⟩; replace HB := Aside0.mk (HB.out.trans (hb.mono HB.out.size)); clear hb)))
                go_ret
                exact ⟨rfl, HB.out⟩
          · have HP : Aside0 (partsS ((frm l).take k) = ([], false)) := ⟨partsS_cut HF.out.1 (by rw [← HN.out]; exact hkN) (fun j hj he => hq ⟨j, hj, he⟩)⟩
            have HQ := Aside0.mk hq
            clear hq
            go_wp2_with (first
              | (go_at_call 19; go_must (first
              | ((with_reducible refine (frame_yes A0 _ _ l _ (Kd.C_below HR0.out HB.out) HF.out.1 (by omega)).mono ?_); rintro e w4 ⟨v4, rfl, ho, hb⟩; obtain ⟨A4, c4, rfl, hcap4, hr4⟩ := Ow_slice ho; have hr4n : RdN w4 A4 (frm l).length (frm l) := hr4; rw [← HN.out] at hcap4 hr4n ⊢; have HR4 := Aside0.mk hr4n; have cT := cutTo A4 N c4 k hkN hcap4 .i64; have hkc : k ≤ c4 := Nat.le_trans hkN hcap4; have xEC := pw_cell_below hb HEC.out; replace hEread := Aside0.mk (Kd.C_below hEread.out hb); replace HB := Aside0.mk (HB.out.trans (hb.mono HB.out.size)); clear ho hb hr4 hr4n)
              | ((with_reducible refine (frame_yes A1 _ _ m _ (Kd.C_below HR1.out HB.out) HG.out.1 (by omega)).mono ?_); rintro e w5 ⟨v5, rfl, ho, hb⟩; obtain ⟨A5, c5, rfl, hcap5, hr5⟩ := Ow_slice ho; have hr5n : RdN w5 A5 (frm m).length (frm m) := hr5; rw [← HM.out] at hr5n ⊢; have HR5 := Aside0.mk hr5n; replace HR4 := Aside0.mk (Kd.C_below HR4.out hb); replace xEC := pw_cell_below hb xEC; replace hEread := Aside0.mk (Kd.C_below hEread.out hb); replace HB := Aside0.mk (HB.out.trans (hb.mono HB.out.size)); clear ho hb hr5 hr5n)))
              | (go_at_call 21; go_must (refine (parts_any A4 k c4 _ _ (RdN_take HR4.out k hkN) hkc ((Byt.frm HY.out.1).take k) (by omega)).mono ?_; rintro e w6 ⟨v6, rfl, ho, hb⟩; rw [HP.out] at ho ⊢; skip; replace HR4 := Aside0.mk (Kd.C_below HR4.out hb); replace HR5 := Aside0.mk (Kd.C_below HR5.out hb); replace hEread := Aside0.mk (Kd.C_below hEread.out hb); clear xEC cT; replace HB := Aside0.mk (HB.out.trans (hb.mono HB.out.size)); clear ho hb)))
            obtain ⟨wb, rfl⟩ : ∃ wb : World, wb = w6 := ⟨_, rfl⟩
            go_loopg [17, 18] (l.length + 1) (fun gk v17 v18 w' => ∃ (i : Nat), v17 = .int .i64 (-1) ∧ v18 = .int .i64 (i : Int) ∧ i + gk = l.length + 1 ∧ wb = w')
            case atStart => exact ⟨0, rfl, rfl, by omega, rfl⟩
            case round =>
              obtain ⟨i, rfl, rfl, hig, rfl⟩ := hrel
              by_cases hi : i < l.length + 1
              · have xE := ends_cell2 hEread.out i (by omega)
                have hi0 : (0 : Int) ≤ (i : Int) := by omega
                have hi1 : (i : Int) < (l.length : Int) + 1 := by omega
                have hne : ¬ ((endAt l i : Nat) : Int) = (k : Int) := fun h => HQ.out ⟨i, by omega, by omega⟩
                go_wp2
                go_roundg (gk - 1)
                case measure => omega
                case rel => exact ⟨i + 1, rfl, by go_num, by omega, rfl⟩
              · obtain rfl : i = l.length + 1 := by omega
                have hi1 : decide ((l.length : Int) + 1 < (l.length : Int) + 1) = false := decide_eq_false (by omega)
                obtain ⟨wz, rfl⟩ : ∃ wz : World, wz = wb := ⟨_, rfl⟩
                have HYB := Aside0.mk (Byt.frm (l := l ++ m) (fun p hp => (List.mem_append.1 hp).elim (HY.out.1 p) (HY.out.2 p)))
                have HLB := Aside0.mk (show (frm (l ++ m)).length ≤ 1000000 by rw [frm_append, List.length_append, ← HN.out, ← HM.out]; omega)
                have HPB := Aside0.mk (partsS_frm (l := l ++ m) (fun p hp => (List.mem_append.1 hp).elim (HF.out.1 p) (HG.out.1 p)))
                go_wp2_with (first 
              | ((with_reducible refine gate_dst (N := 138) rfl ?_); go_must (refine litB wz.heap.size rfl (N := 138) rfl [] ?hr (Below.refl _ _) (Nat.le_refl _) (by simp) ?_; (case hr => first | (go_simp; done) | (go_simp; rfl)); intro v7 w7 ho hb0 hn hb; have HZ := Aside0.mk hb0; have HO := Aside0.mk ho; clear ho hb hb0 hn))
              | ((with_reducible refine gate_dst (N := 140) rfl ?_); go_must (refine appB wz.heap.size rfl (.tmp 138) (.tmp 139) rfl rfl v7 [] (frm l) A4 N c4 rfl rfl HO.out (Kd.C_below HR4.out HZ.out) HZ.out HZ.out.size (by simp; omega) ?_; intro v8 w8 ho hb hg hat; clear HO HZ; have HZ := Aside0.mk hb; have HO := Aside0.mk ho; clear ho hb hg hat))
              | ((with_reducible refine gate_dst (N := 142) rfl ?_); go_must (refine appB wz.heap.size rfl (.tmp 140) (.tmp 141) rfl rfl v8 ([] ++ frm l) (frm m) A5 M c5 rfl rfl HO.out (Kd.C_below HR5.out HZ.out) HZ.out HZ.out.size (by rw [List.nil_append, ← HN.out]; omega) ?_; intro v9 w9 ho hb hg hat; rw [List.nil_append, ← frm_append] at ho; obtain ⟨A9, c9, rfl, hcap9, hr9⟩ := Ow_slice ho; clear HO HZ; have HR9 := Aside0.mk hr9; have HC9 := Aside0.mk hcap9; replace HB := Aside0.mk (HB.out.trans (hb.mono HB.out.size)); clear ho hb hg hat hr9 hcap9))
              | (go_at_call 21; go_must (refine (parts_any A9 _ c9 _ _ HR9.out HC9.out HYB.out HLB.out).mono ?_; rintro e w10 ⟨v10, rfl, ho, hb⟩; rw [HPB.out] at ho ⊢; obtain ⟨A10, c10, rfl, hcap10, hr10⟩ := OwR_slice ho; obtain ⟨N10, hN10⟩ : ∃ N10, N10 = (l ++ m).length := ⟨_, rfl⟩; rw [← hN10] at hr10 ⊢; have HR10 := Aside0.mk hr10; have HN10 := Aside0.mk hN10; replace HB := Aside0.mk (HB.out.trans (hb.mono HB.out.size)); clear ho hb hr10 hcap10 hN10))
              | ((with_reducible refine gate_dst (N := 149) rfl ?_); (try (refine gate_guard (by rfl) ?_; dsimp only)); go_must (refine litF w w10.heap.size rfl (N := 149) rfl ?hr (Below.refl _ _) (Nat.le_refl _) ?_; (case hr => first | (go_simp; done) | (go_simp; rfl)); intro v11 w11 ho hb0 hn hb; have HZ := Aside0.mk hb0; have HO := Aside0.mk ho; clear ho hb hb0 hn))
              | ((with_reducible refine gate_dst (N := 151) rfl ?_); (try (refine gate_guard (by rfl) ?_; dsimp only)); go_must (refine appF w w10.heap.size rfl (.tmp 149) (.tmp 150) rfl rfl v11 [] l A0 l.length c0 rfl rfl HO.out HR0.out (HB.out.trans (HZ.out.mono HB.out.size)) HZ.out HZ.out.size (by simp; omega) ?_; intro v12 w12 ho hb hg hat; clear HO HZ; have HZ := Aside0.mk hb; have HO := Aside0.mk ho; clear ho hb hg hat))
              | ((with_reducible refine gate_dst (N := 153) rfl ?_); (try (refine gate_guard (by rfl) ?_; dsimp only)); go_must (refine appF w w10.heap.size rfl (.tmp 151) (.tmp 152) rfl rfl v12 ([] ++ l) m A1 m.length c1 rfl rfl HO.out HR1.out (HB.out.trans (HZ.out.mono HB.out.size)) HZ.out HZ.out.size (by simp; omega) ?_; intro v13 w13 ho hb hg hat; rw [List.nil_append] at ho; replace HB := Aside0.mk (HB.out.trans (hb.mono HB.out.size)); obtain ⟨A13, c13, rfl, hcap13, hr13⟩ := OwF_slice ho HB.out; replace HR10 := Aside0.mk (Kd.C_below HR10.out hb); rw [← HN10.out] at hr13 ⊢; have HR13 := Aside0.mk hr13; clear HO HZ ho hb hg hat hcap13 hr13))
              | (go_at_call 23; go_must (refine (rows_yes A10 N10 c10 (l ++ m) A13 N10 c13 (l ++ m) _ HR10.out HR13.out rfl).mono ?_; rintro e w14 ⟨rfl, hb⟩; replace HB := Aside0.mk (HB.out.trans (hb.mono HB.out.size)); clear hb)))
                go_ret
                exact ⟨rfl, HB.out⟩
end Go.Proofs.Ytfbbnodlikcocaa.LawCuts
