/- Words of this session's own for slices of bytes, and slices of these. No conditions. -/
import Derived.Test.YtghcnipehgjegaaKit
namespace Go.Proofs.Ytghcnipehgjegaa.Kit
open Go.Proofs.Ytghcnipehgjegaa.Plain Go.RowKit Go.Proofs.YtghcnipehgjegaaW.PrintWords Go.Proofs.YtghcnipehgjegaaW.PrintLast Go.Proofs.YtghcnipehgjegaaW.PrintMore
set_option linter.unusedVariables false
set_option linter.unusedSimpArgs false

theorem infoU8 : (Try.prog.info? 5).map (fun i => (i.zero, i.size, i.bytes)) = some (some (.int .u8 0), 1, 1) := by kernel_rfl
theorem infoRow : (Try.prog.info? 28).map (fun i => (i.zero, i.size, i.bytes)) = some (some (.slice none 0 0), 1, 24) := by kernel_rfl

abbrev U8 : Kd Int := Kd.int .u8
abbrev Rw : Kd (List Int) := Kd.slice 5 (Kd.int .u8)
/-- A slice of bytes that is read. -/
abbrev RdB (w : World) (A : Option Addr) (l : List Int) : Prop := Kd.C (Kd.int .u8) w A l.length l
/-- The same, its length told apart. -/
abbrev RdN (w : World) (A : Option Addr) (n : Nat) (l : List Int) : Prop := Kd.C (Kd.int .u8) w A n l
/-- A slice of bytes of the call's own. -/
abbrev OwB (w : World) (base : Nat) (v : Value) (l : List Int) : Prop := Kd.R (Kd.int .u8) 5 w base (fun _ => True) v l

/-- A row of a slice of rows that is read. -/
theorem C_row {w : World} {A : Option Addr} {n : Nat} {xs : List (List Int)} (h : Kd.C Rw w A n xs) (i : Nat) (hi : i < n) :
    ∃ ad A0 c0, A = some ad ∧ w.cell? (ad.add i) = some (.slice A0 (nthR xs i).length c0) ∧ (nthR xs i).length ≤ c0 ∧ RdB w A0 (nthR xs i) := by
  obtain ⟨ad, c, e, _, hK, hc0⟩ := Kd.C_get h ([] : List Int) (i : Int) (by omega) (by omega)
  have hc : ∀ j u, c[j]? = some u → w.cell? (ad.add ((i : Int).toNat * 1 + j)) = some u := hc0
  obtain ⟨A0, c0, rfl, l0, g0⟩ := hK
  exact ⟨ad, A0, c0, e, by have hq := hc 0 _ rfl; rwa [Nat.mul_one, Nat.add_zero] at hq, l0, g0⟩
abbrev Rww : Kd (List (List Int)) := Kd.slice 28 Rw
theorem C_rows {w : World} {A : Option Addr} {n : Nat} {xs : List (List (List Int))} (h : Kd.C Rww w A n xs) (i : Nat) (hi : i < n) :
    ∃ ad A0 c0, A = some ad ∧ w.cell? (ad.add i) = some (.slice A0 (nthQ xs i).length c0) ∧ (nthQ xs i).length ≤ c0 ∧ Kd.C Rw w A0 (nthQ xs i).length (nthQ xs i) := by
  obtain ⟨ad, c, e, _, hK, hc0⟩ := Kd.C_get h ([] : List (List Int)) (i : Int) (by omega) (by omega)
  have hc : ∀ j u, c[j]? = some u → w.cell? (ad.add ((i : Int).toNat * 1 + j)) = some u := hc0
  obtain ⟨A0, c0, rfl, l0, g0⟩ := hK
  exact ⟨ad, A0, c0, e, by have hq := hc 0 _ rfl; rwa [Nat.mul_one, Nat.add_zero] at hq, l0, g0⟩
/-- What is one's own may be read. -/
theorem Ow_rd {w : World} {base : Nat} {ok : Nat → Prop} {A : Option Addr} {n c : Nat} {l : List Int} (h : Kd.R (Kd.int .u8) 5 w base ok (.slice A n c) l) : n = l.length ∧ n ≤ c ∧ RdB w A l := Kd.R_reads' h
/-- Of what is one's own: the slice. -/
theorem Ow_slice {w : World} {base : Nat} {v : Value} {l : List Int} (h : OwB w base v l) : ∃ A c, v = .slice A l.length c ∧ l.length ≤ c ∧ RdB w A l := by
  obtain ⟨A, c, rfl⟩ := Kd.R_slice h
  obtain ⟨_, h2, h3⟩ := Kd.R_reads' h
  exact ⟨A, c, rfl, h2, h3⟩
section
variable {P : Program} {ops : Array Oper} {rest : List Oper} {o : Oper} {a : Act} {Q : Exit → Act → World → Prop}
theorem litB {w0 W : World} (base : Nat) (hgd : o.guard = none) {N : Tmp} (hd : o.dst = some N) (xs : List Int)
    (hrun : (execOp a.eval o).run P W = .ok (.value (.slice (some ⟨W.heap.size, 0, none⟩) xs.length xs.length)) (W.alloc (.cells (xs.map (Value.int .u8)).toArray 5)))
    (HB : Below base w0 W) (hbase : base ≤ W.heap.size) (hm : xs.length ≤ 9223372036854775807)
    (h : ∀ v1 w1, OwB w1 base v1 xs → Below base w0 w1 → (∃ b, v1.ownBlock = some b ∧ W.heap.size ≤ b) → Below W.heap.size W w1 → wpList P ops Q rest (a.put o.dst v1) w1) : wpList P ops Q (o :: rest) a W :=
  Kd.R_lit (Kd.int .u8) base 5 hgd hd (ok := fun _ => True) (okp := fun _ => True) hrun (reps_int .u8 xs) (fun _ hk => hk) trivial HB hbase hm (fun v1 w1 h1 h2 h3 h4 => h v1 w1 h1 h2 h4 ⟨h3.os, h3.tape, h3.output, h3.size, fun i hi => h3.block i hi (by simp)⟩)
theorem appB {w0 W : World} (base : Nat) (hgd : o.guard = none) (s x : Operand)
    (ho : o.op = .call { callee := .builtin .append, args := #[s, x], argTypes := #[28, 28] }) (hP : P = Try.prog)
    (v : Value) (xs ys : List Int) (A : Option Addr) (m c : Nat) (hs : a.eval s = v) (hx : a.eval x = .slice A m c)
    (HO : OwB W base v xs) (HR : Kd.C (Kd.int .u8) W A m ys) (HB : Below base w0 W) (hbase : base ≤ W.heap.size) (hl : xs.length + m ≤ 140737488355328)
    (h : ∀ v1 w1, OwB w1 base v1 (xs ++ ys) → Below base w0 w1 → W.grownBy w1 v.ownBlock → (v1.ownBlock = v.ownBlock ∨ ∃ b, v1.ownBlock = some b ∧ W.heap.size ≤ b) → wpList P ops Q rest (a.put o.dst v1) w1) :
    wpList P ops Q (o :: rest) a W := by
  subst hP
  exact Kd.R_append_rows (Kd.int .u8) base hgd s x 28 5 (.int .u8 0) 1 ho Try.underlying28 infoU8 rfl (by decide) (by omega) v xs ys A m c (fun _ => True) (fun _ => False) hs hx HO HR (fun _ _ hh => hh) (fun _ hk => hk.elim) (fun _ _ => trivial) HB hbase (by omega) h
/-- The same two inside a region that draws its order. -/
theorem litB_step {Kc : Act → World → Prop} {w0 W : World} (base : Nat) (hw : Region.wanted o (yielded ops a.tmps) = true) {N : Tmp} (hd : o.dst = some N) (xs : List Int)
    (hrun : (execOp a.eval o).run P W = .ok (.value (.slice (some ⟨W.heap.size, 0, none⟩) xs.length xs.length)) (W.alloc (.cells (xs.map (Value.int .u8)).toArray 5)))
    (HB : Below base w0 W) (hbase : base ≤ W.heap.size) (hm : xs.length ≤ 9223372036854775807)
    (h : ∀ v1 w1, OwB w1 base v1 xs → Below base w0 w1 → (∃ b, v1.ownBlock = some b ∧ W.heap.size ≤ b) → Below W.heap.size W w1 → Kc (a.put o.dst v1) w1) :
    if Region.wanted o (yielded ops a.tmps) = true then Oper.wp P o a W Kc Q else Kc (a.put o.dst undef) W :=
  Kd.R_lit_step (Kd.int .u8) base 5 hw hd (ok := fun _ => True) (okp := fun _ => True) hrun (reps_int .u8 xs) (fun _ hk => hk) trivial HB hbase hm (fun v1 w1 h1 h2 h3 h4 => h v1 w1 h1 h2 h4 ⟨h3.os, h3.tape, h3.output, h3.size, fun i hi => h3.block i hi (by simp)⟩)
theorem appB_step {Kc : Act → World → Prop} {w0 W : World} (base : Nat) (hw : Region.wanted o (yielded ops a.tmps) = true) (s x : Operand)
    (ho : o.op = .call { callee := .builtin .append, args := #[s, x], argTypes := #[28, 28] }) (hP : P = Try.prog)
    (v : Value) (xs ys : List Int) (A : Option Addr) (m c : Nat) (hs : a.eval s = v) (hx : a.eval x = .slice A m c)
    (HO : OwB W base v xs) (HR : Kd.C (Kd.int .u8) W A m ys) (HB : Below base w0 W) (hbase : base ≤ W.heap.size) (hl : xs.length + m ≤ 140737488355328)
    (h : ∀ v1 w1, OwB w1 base v1 (xs ++ ys) → Below base w0 w1 → W.grownBy w1 v.ownBlock → (v1.ownBlock = v.ownBlock ∨ ∃ b, v1.ownBlock = some b ∧ W.heap.size ≤ b) → Kc (a.put o.dst v1) w1) :
    if Region.wanted o (yielded ops a.tmps) = true then Oper.wp P o a W Kc Q else Kc (a.put o.dst undef) W := by
  subst hP
  exact Kd.R_append_rows_step (Kd.int .u8) base hw s x 28 5 (.int .u8 0) 1 ho Try.underlying28 infoU8 rfl (by decide) (by omega) v xs ys A m c (fun _ => True) (fun _ => False) hs hx HO HR (fun _ _ hh => hh) (fun _ hk => hk.elim) (fun _ _ => trivial) HB hbase (by omega) h
theorem K_row {w : World} {l : List Int} {A : Option Addr} {c : Nat} (hl : l.length ≤ c) (h : RdB w A l) : Rw.K w l [.slice A l.length c] := ⟨A, c, rfl, hl, h⟩
theorem RdB_nil (w : World) : RdB w none [] := Kd.C_nil _ _
end
/-! Cuts of a slice of bytes that is read. -/
theorem RdN_take {w : World} {A : Option Addr} {n : Nat} {l : List Int} (h : RdN w A n l) (m : Nat) (hm : m ≤ n) : RdN w A m (l.take m) := by
  obtain rfl := C_len h
  have h1 := Kd.C_take (m := m) h hm
  rwa [show (l.take m).length = m by rw [List.length_take]; omega] at h1
theorem RdN_drop {w : World} {A : Option Addr} {n c : Nat} {l : List Int} (h : RdN w A n l) (m : Nat) (hm : m ≤ n) (hc : n ≤ c) : RdN w (if c = m then A else A.map (·.add (m * 1))) (n - m) (l.drop m) := by
  obtain rfl := C_len h
  have h1 := Kd.C_drop (m := m) h hm hc
  rwa [List.length_drop] at h1
theorem cutTo (A : Option Addr) (n c j : Nat) (hj : j ≤ n) (hc : n ≤ c) (k : IntKind) :
    ∀ W : World, (Instr.slice 28 (.slice A n c) none (some (.int k (j : Int))) none).run Try.prog W = .ok (.slice A j c) W := by
  obtain ⟨i0, hi, hzz⟩ := Option.map_eq_some_iff.1 infoU8
  intro W
  have := cut_to 28 5 k Try.underlying28 hi A n c (j : Int) (by omega) (by omega) hc W
  simpa using this
theorem cutFrom {w : World} {A : Option Addr} {n c : Nat} {l : List Int} (h : RdN w A n l) (hc : n ≤ c) (j : Nat) (hj : j ≤ n) (k : IntKind) :
    ∃ A', (∀ W : World, (Instr.slice 28 (.slice A n c) (some (.int k (j : Int))) none none).run Try.prog W = .ok (.slice A' (n - j) (c - j)) W) ∧ RdN w A' (n - j) (l.drop j) := by
  obtain ⟨i0, hi, hzz⟩ := Option.map_eq_some_iff.1 infoU8
  simp only [Prod.mk.injEq] at hzz
  refine ⟨_, fun W => ?_, RdN_drop h j hj hc⟩
  have := cut_from 28 5 k Try.underlying28 hi 1 hzz.2.1 A n c (j : Int) (by omega) (by omega) W
  simpa using this
theorem cutMid {w : World} {A : Option Addr} {n c : Nat} {l : List Int} (h : RdN w A n l) (hc : n ≤ c) (i j : Nat) (hij : i ≤ j) (hj : j ≤ n) (k k' : IntKind) :
    ∃ A', (∀ W : World, (Instr.slice 28 (.slice A n c) (some (.int k (i : Int))) (some (.int k' (j : Int))) none).run Try.prog W = .ok (.slice A' (j - i) (c - i)) W) ∧ RdN w A' (j - i) ((l.take j).drop i) := by
  obtain ⟨i0, hi, hzz⟩ := Option.map_eq_some_iff.1 infoU8
  simp only [Prod.mk.injEq] at hzz
  refine ⟨_, fun W => ?_, RdN_drop (c := c) (RdN_take h j hj) i hij (by omega)⟩
  have := cut_mid 28 5 k k' Try.underlying28 hi 1 hzz.2.1 A n c (i : Int) (j : Int) (by omega) (by omega) (by omega) hc W
  simpa using this
/-- Of rows of the call's own: the slice, and how it is read. -/
theorem OwR_slice {w : World} {base : Nat} {v : Value} {l : List (List Int)} (h : Kd.R Rw 28 w base (fun _ => True) v l) : ∃ A c, v = .slice A l.length c ∧ l.length ≤ c ∧ Kd.C Rw w A l.length l := by
  obtain ⟨A, c, rfl⟩ := Kd.R_slice h
  obtain ⟨_, h2, h3⟩ := Kd.R_reads' h
  exact ⟨A, c, rfl, h2, h3⟩
end Go.Proofs.Ytghcnipehgjegaa.Kit
