/- Words of this session's own for a map of the call's own from uint64 to bool. No conditions. -/
import Derived.Test.YtoojmbifkjocfaaKit
import Derived.Maps.OwnSet
namespace Go.Proofs.Ytoojmbifkjocfaa.Kit
open Go.RowKit Go.Proofs.YtoojmbifkjocfaaW.PrintWords
set_option linter.unusedVariables false
set_option linter.unusedSimpArgs false
/-- Block b is a map that holds just what f tells, at most n entries. -/
def MapB (w : World) (b n : Nat) (f : Int → Option Bool) : Prop :=
  ∃ D : DataW Unit, w.ownsMap Try.prog 22 (plainElem Try.prog 4) b n D ∧ ∀ m, (Lit.int .u64 m).wf = true → Maps.has D (.int .u64 m) = (f m).isSome ∧ D.atKey (.int .u64 m) (.lit (.bool false)) = .lit (.bool ((f m).getD false))
theorem mapB_made (w : World) : MapB (w.alloc (.map #[] 0)) w.heap.size 0 (fun _ => none) := ⟨_, World.ownsMap_made w _ _ _, fun m _ => ⟨rfl, rfl⟩⟩
theorem grown_of_below {w w' : World} (h : Below w.heap.size w w') : w.grownBy w' none := ⟨h.os, h.tape, h.output, h.size, fun i hi _ => h.block i hi⟩
theorem below_grown {w0 w w' : World} {base b : Nat} (h : Below base w0 w) (hbs : base ≤ w.heap.size) (hb : base ≤ b) (hg : w.grownBy w' (some b)) : Below base w0 w' where
  os := hg.os.trans h.os
  tape := hg.tape.trans h.tape
  output := hg.output.trans h.output
  size := Nat.le_trans h.size hg.size
  block := fun i hi => (hg.block i (by omega) (by simp; omega)).trans (h.block i hi)
theorem MapB.lt {w : World} {b n : Nat} {f : Int → Option Bool} (h : MapB w b n f) : b < w.heap.size := by
  obtain ⟨D, h1, _⟩ := h
  exact h1.lt
theorem MapB.below {w w' : World} {b n : Nat} {f : Int → Option Bool} (h : MapB w b n f) (hb : Below w.heap.size w w') : MapB w' b n f := by
  obtain ⟨D, h1, h2⟩ := h
  exact ⟨D, h1.kept (grown_of_below hb) (by simp), h2⟩
theorem zeroB (w : World) : (zeroValue 4).run Try.prog w = .ok (.bool false) w := by kernel_rfl
theorem plainElem_bool_inv {H : Type} {P : Program} {e : TypeId} (he : P.underlying e = some .bool) {v : Value} {z : DataW H × List MemPlace} (h : plainElem P e v = some z) : ∃ a, v = .bool a ∧ z = (.lit (.bool a), []) := by
  unfold plainElem at h
  rw [he] at h
  cases v <;> simp at h
  subst h
  exact ⟨_, rfl, rfl⟩
section
variable {P : Program} {w : World} {ops : Array Oper} {rest : List Oper} {o : Oper} {a : Act} {Q : Exit → Act → World → Prop} {b n : Nat} {f : Int → Option Bool}
theorem wpB_look2 (hg : o.guard = none) (m x : Operand) (hop : o.op = Op.lookup 54 m x true) (hP : P = Try.prog) (hm : a.eval m = .map (some b)) (h : MapB w b n f) (k : Int) (hx : a.eval x = .int .u64 k) (hk : (Lit.int .u64 k).wf = true)
    (hK : wpList P ops Q rest (a.put o.dst (.tuple #[.bool ((f k).getD false), .bool (f k).isSome])) w) : wpList P ops Q (o :: rest) a w := by
  subst hP
  obtain ⟨D, h1, h2⟩ := h
  refine wpList_lookup_own_ok w hg m x _ hop _ _ (Maps.int_keyed Try.underlying22) Try.underlying54 _ (zeroB w) (.lit (.bool false)) [] (plainElem_bool Try.underlying4 false) b n D hm h1 _ (.int .u64 k) hx (Maps.keyOf_int_mk Try.underlying22 hk) ?_
  intro v ps hv
  obtain ⟨c, rfl, hc⟩ := plainElem_bool_inv Try.underlying4 hv
  have e := congrArg Prod.fst hc
  simp only [(h2 k hk).2] at e
  have e2 : (f k).getD false = c := by injection e with e; injection e
  rw [(h2 k hk).1, ← e2]
  exact hK
theorem wpB_look (hg : o.guard = none) (m x : Operand) (hop : o.op = Op.lookup 54 m x false) (hP : P = Try.prog) (hm : a.eval m = .map (some b)) (h : MapB w b n f) (k : Int) (hx : a.eval x = .int .u64 k) (hk : (Lit.int .u64 k).wf = true)
    (hK : wpList P ops Q rest (a.put o.dst (.bool ((f k).getD false))) w) : wpList P ops Q (o :: rest) a w := by
  subst hP
  obtain ⟨D, h1, h2⟩ := h
  refine wpList_plain hg fun K' hK' => ?_
  obtain ⟨v, ps, hrun, hv⟩ := h1.lookup (Maps.int_keyed Try.underlying22) Try.underlying54 (zeroB w) (plainElem_bool Try.underlying4 false) (Maps.keyOf_int_mk Try.underlying22 hk)
  obtain ⟨c, rfl, hc⟩ := plainElem_bool_inv Try.underlying4 hv
  have e := congrArg Prod.fst hc
  simp only [(h2 k hk).2] at e
  have e2 : (f k).getD false = c := by injection e with e; injection e
  unfold Oper.wp
  simp [execOp, hop, hm, hx, hrun, Result.andThen]
  rw [e2] at hK
  exact hK' _ _ hK
theorem wpB_put (hg : o.guard = none) (m x v : Operand) (hop : o.op = Op.mapUpdate 54 m x v) (hP : P = Try.prog) (hm : a.eval m = .map (some b)) (h : MapB w b n f) (hn : n < maxLen) (k : Int) (c : Bool) (hx : a.eval x = .int .u64 k) (hv : a.eval v = .bool c) (hk : (Lit.int .u64 k).wf = true)
    (hK : ∀ w', MapB w' b (n + 1) (fun j => if j = k then some c else f j) → w.grownBy w' (some b) → wpList P ops Q rest (a.put o.dst undef) w') : wpList P ops Q (o :: rest) a w := by
  subst hP
  obtain ⟨D, h1, h2⟩ := h
  refine wpList_mapUpdate_own w hg m x v _ hop _ _ (Maps.int_keyed Try.underlying22) Try.underlying54 _ b n D hm h1 hn _ _ (.int .u64 k) hx hv (Maps.keyOf_int_mk Try.underlying22 hk) (.lit (.bool c)) [] (plainElem_bool Try.underlying4 c) ?_
  intro w' h3 h4
  refine hK w' ⟨_, h3, fun j hj => ?_⟩ h4
  by_cases hjk : j = k
  · subst hjk
    rw [Maps.has_put_same h1.isMap (by trivial), Maps.atKey_put_same h1.isMap (by trivial)]
    simp
  · have hne : (Lit.int .u64 j) ≠ (Lit.int .u64 k) := fun h => hjk (by injection h)
    rw [Maps.has_put_other hne, Maps.atKey_put_other hne]
    simp only [hjk, if_false]
    exact h2 j hj
end
end Go.Proofs.Ytoojmbifkjocfaa.Kit
