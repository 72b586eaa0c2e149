/- Words of this session's own for slices of uint64 of one's own. No conditions. -/
import Derived.Test.YtoojmbifkjocfaaKit
namespace Go.Proofs.Ytoojmbifkjocfaa.Kit
open Go.Proofs.Ytoojmbifkjocfaa.Plain Go.RowKit Go.Proofs.YtoojmbifkjocfaaW.PrintWords Go.Proofs.YtoojmbifkjocfaaW.PrintLast Go.Proofs.YtoojmbifkjocfaaW.PrintMore
set_option linter.unusedVariables false
set_option linter.unusedSimpArgs false
theorem infoU64 : (Try.prog.info? 22).map (fun i => (i.zero, i.size, i.bytes)) = some (some (.int .u64 0), 1, 8) := by kernel_rfl
abbrev OwU (w : World) (base : Nat) (v : Value) (l : List Int) : Prop := Kd.R (Kd.int .u64) 22 w base (fun _ => True) v l
theorem OwU_slice {w : World} {base : Nat} {v : Value} {l : List Int} (h : OwU w base v l) : ∃ A c, v = .slice A l.length c ∧ l.length ≤ c ∧ Kd.C (Kd.int .u64) w A l.length l := by
  obtain ⟨A, c, rfl⟩ := Kd.R_slice h
  obtain ⟨_, h2, h3⟩ := Kd.R_reads' h
  exact ⟨A, c, rfl, h2, h3⟩
section
variable {P : Program} {ops : Array Oper} {rest : List Oper} {o : Oper} {a : Act} {Q : Exit → Act → World → Prop}
theorem litU {w0 W : World} (base : Nat) (hgd : o.guard = none) {N : Tmp} (hd : o.dst = some N) (xs : List Int)
    (hrun : (execOp a.eval o).run P W = .ok (.value (.slice (some ⟨W.heap.size, 0, none⟩) xs.length xs.length)) (W.alloc (.cells (xs.map (Value.int .u64)).toArray 22)))
    (HB : Below base w0 W) (hbase : base ≤ W.heap.size) (hm : xs.length ≤ 9223372036854775807)
    (h : ∀ v1 w1, OwU w1 base v1 xs → Below base w0 w1 → (∃ b, v1.ownBlock = some b ∧ W.heap.size ≤ b) → Below W.heap.size W w1 → wpList P ops Q rest (a.put o.dst v1) w1) : wpList P ops Q (o :: rest) a W :=
  Kd.R_lit (Kd.int .u64) base 22 hgd hd (ok := fun _ => True) (okp := fun _ => True) hrun (reps_int .u64 xs) (fun _ hk => hk) trivial HB hbase hm (fun v1 w1 h1 h2 h3 h4 => h v1 w1 h1 h2 h4 ⟨h3.os, h3.tape, h3.output, h3.size, fun i hi => h3.block i hi (by simp)⟩)
theorem appU {w0 W : World} (base : Nat) (hgd : o.guard = none) (s x : Operand)
    (ho : o.op = .call { callee := .builtin .append, args := #[s, x], argTypes := #[26, 26] }) (hP : P = Try.prog)
    (v : Value) (xs ys : List Int) (A : Option Addr) (m c : Nat) (hs : a.eval s = v) (hx : a.eval x = .slice A m c)
    (HO : OwU W base v xs) (HR : Kd.C (Kd.int .u64) W A m ys) (HB : Below base w0 W) (hbase : base ≤ W.heap.size) (hl : xs.length + m ≤ 17592186044416)
    (h : ∀ v1 w1, OwU w1 base v1 (xs ++ ys) → Below base w0 w1 → W.grownBy w1 v.ownBlock → (v1.ownBlock = v.ownBlock ∨ ∃ b, v1.ownBlock = some b ∧ W.heap.size ≤ b) → wpList P ops Q rest (a.put o.dst v1) w1) :
    wpList P ops Q (o :: rest) a W := by
  subst hP
  exact Kd.R_append_rows (Kd.int .u64) base hgd s x 26 22 (.int .u64 0) 8 ho Try.underlying26 infoU64 rfl (by decide) (by omega) v xs ys A m c (fun _ => True) (fun _ => False) hs hx HO HR (fun _ _ hh => hh) (fun _ hk => hk.elim) (fun _ _ => trivial) HB hbase (by omega) h
end
end Go.Proofs.Ytoojmbifkjocfaa.Kit
