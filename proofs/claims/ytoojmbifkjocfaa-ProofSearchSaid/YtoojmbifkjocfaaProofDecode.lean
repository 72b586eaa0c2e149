/- What proof.Decode answers: what bytes tell of what was found, or an error's number. Conditions stand in each statement. -/
import Derived.Test.YtoojmbifkjocfaaProofEncode
namespace Go.Proofs.Ytoojmbifkjocfaa.Proof
open Go.RowKit Go.Proofs.YtoojmbifkjocfaaW.PrintWords Go.Proofs.YtoojmbifkjocfaaW.PrintLast Go.Proofs.YtoojmbifkjocfaaW.PrintMore Go.Proofs.Ytoojmbifkjocfaa.Kit Go.Proofs.Ytoojmbifkjocfaa.Plain Go.Proofs.Ytoojmbifkjocfaa.Wire
set_option linter.unusedVariables false
set_option linter.unusedSimpArgs false
/-- A call of a closure in a region that draws its order, by its contract. -/
theorem goesD {P : Program} {ops : Array Oper} {Q : Exit → Act → World → Prop} {oi : Oper} {N : Option Tmp} {a : Act} {w : World} {K : Act → World → Prop} {f : FuncId} {fn : Func} {xs : Array Operand} {ts : Array TypeId} (t : Operand) (cap pre : Array Value) (hf : P.funcs[f]? = some fn) (hname : (fn.name == "runtime.NumGoroutine") = false) (hb : fn.body.isSome = true) (args : Array Value)
    (hw : Region.wanted oi (yielded ops a.tmps) = true) (hN : oi.dst = N) (hop : oi.op = .call { callee := .value t, args := xs, argTypes := ts }) (hv : a.eval t = .func (.func f) #[] cap) (hpre : xs.map a.eval = pre) (hargs : pre ++ cap = args)
    (h : Calls P f args w fun e w' => ∃ v, e = .returned v ∧ K (a.put N v) w') : if Region.wanted oi (yielded ops a.tmps) = true then Oper.wp P oi a w K Q else K (a.put N undef) w := by
  refine call_ f args hw hN ?_ h
  have he := enters_ hf hname hb args w
  unfold execOp
  simp [hop, resolve, hv, Deferred.ofValue, invoke, hpre, hargs, he]
theorem tkM_le (b : List Int) (m : Nat) (e : Int) (n : Nat) (h : m ≤ b.length) : tkM b m e n ≤ b.length := by
  unfold tkM
  split
  · rename_i hh
    exact hh.2
  · exact h
/-- New cells, in a region that draws its order. -/
theorem newcellsD_ {P : Program} {ops : Array Oper} {Q : Exit → Act → World → Prop} {oi : Oper} {N : Option Tmp} {a : Act} {W : World} {K : Act → World → Prop} (obj : Obj) (val : Nat → Value) (hw : Region.wanted oi (yielded ops a.tmps) = true) (hN : oi.dst = N)
    (hrun : (execOp a.eval oi).run P W = .ok (.value (val W.heap.size)) (W.alloc obj))
    (h : ∀ k W', k = W.heap.size → W'.heap[k]? = some obj → Below W.heap.size W W' → K (a.put N (val k)) W') : if Region.wanted oi (yielded ops a.tmps) = true then Oper.wp P oi a W K Q else K (a.put N undef) W :=
  value_ hw hN hrun (h _ _ rfl (blk_new W obj) (below_alloc (Below.refl _ _) _))
theorem C_oneD {W : World} {k : Nat} {x : Int} {b : Bool} (h : W.heap[k]? = some (.cells #[.int .u64 x, .bool b] 35 (0, 0))) : Kd.C Lk W (some ⟨k, 0, none⟩) 1 [(x, b)] := by
  refine ⟨rfl, by decide, fun _ => ⟨_, rfl, fun j p hj => ⟨lkEnc p, rfl, rfl, fun i u hu => ?_⟩⟩⟩
  rcases j with _ | j
  · simp at hj
    subst hj
    show W.cell? (Addr.add ⟨k, 0, none⟩ (0 * 2 + i)) = _
    rw [add_plain, blk_cell h]
    rcases i with _ | _ | i
    · simpa [lkEnc] using hu
    · simpa [lkEnc] using hu
    · simp [lkEnc] at hu
  · simp at hj
/-- What three blocks' stores leave of own looks. -/
theorem R_kp3 {W W' : World} {base p1 p2 p6 t1 t2 t6 : Nat} {c1 c2 c6 : Array Value} {v : Value} {L : List (Int × Bool)} (h : Kd.R Lk 35 W base (fun _ => True) v L)
    (h1 : W.heap[p1]? = some (.cells c1 t1 (0, 0))) (n1 : 35 ≠ t1) (h2 : W.heap[p2]? = some (.cells c2 t2 (0, 0))) (n2 : 35 ≠ t2) (h6 : W.heap[p6]? = some (.cells c6 t6 (0, 0))) (n6 : 35 ≠ t6)
    (hk : Kp3 p1 p2 p6 W W') : Kd.R Lk 35 W' base (fun _ => True) v L := by
  have key : ∀ (g t : Nat) (c : Array Value), W.heap[g]? = some (.cells c t (0, 0)) → 35 ≠ t → ∀ k, (∃ q, q ∈ 35 :: (Lk).E ∧ ∃ cells, W.heap[k]? = some (.cells cells q (0, 0))) → k ≠ g := by
    rintro g t c hg hn k ⟨q, hq, cells, hc⟩ rfl
    rw [hg] at hc
    have hq' : q = 35 := by simpa [Lk, flat] using hq
    subst hq'
    simp only [Option.some.injEq, Obj.cells.injEq] at hc
    exact hn hc.2.1.symm
  have hm := Kd.R_mono (Kd.R_bound h) (ok' := fun k => k < W.heap.size ∧ k ≠ p1 ∧ k ≠ p2 ∧ k ≠ p6) (fun k hk => ⟨hk.2.2.1, key _ _ _ h1 n1 k hk.2.2.2, key _ _ _ h2 n2 k hk.2.2.2, key _ _ _ h6 n6 k hk.2.2.2⟩)
  exact Kd.R_mono (Kd.R_move hm (fun k hq => hk.2 k hq.1 hq.2.1 hq.2.2.1 hq.2.2.2)) (fun _ _ => trivial)
theorem FlAt.keep {w0 W W' : World} {p1 p2 p5 p6 : Nat} {b : List Int} {m : Nat} {e : Int} {odd : Bool} (h : FlAt w0 W p1 p2 p5 p6 b m e odd) (hb : Below w0.heap.size w0 W') (h1 : W'.heap[p1]? = W.heap[p1]?) (h2 : W'.heap[p2]? = W.heap[p2]?) (h5 : W'.heap[p5]? = W.heap[p5]?) (h6 : W'.heap[p6]? = W.heap[p6]?) : FlAt w0 W' p1 p2 p5 p6 b m e odd := by
  obtain ⟨A, c, q1, q2, q3⟩ := h.tk.sl
  exact { tk := { ord := h.tk.ord, bel := hb, sl := ⟨A, c, q1, q2, h1.trans q3⟩, er := h2.trans h.tk.er }, fn := h5.trans h.fn, od := h6.trans h.od, far := h.far }
/-- Where Decode stands: the closures' variables, the result's box, f's box and its own looks. -/
structure DeAt (w0 W : World) (p1 p2 p5 p6 pr p8 : Nat) (b : List Int) (m : Nat) (e : Int) (odd : Bool) (fm : Int) (fo : Bool) (v : Value) (L : List (Int × Bool)) : Prop where
  fl : FlAt w0 W p1 p2 p5 p6 b m e odd
  res : W.heap[pr]? = some (foundObj 0 false (.slice none 0 0))
  fd : W.heap[p8]? = some (foundObj fm fo v)
  lk : Kd.R Lk 35 W w0.heap.size (fun _ => True) v L
  far : w0.heap.size ≤ pr ∧ w0.heap.size ≤ p8 ∧ pr ≠ p8
section
variable {w0 W W' : World} {p1 p2 p5 p6 pr p8 : Nat} {b : List Int} {m : Nat} {e : Int} {odd : Bool} {fm : Int} {fo : Bool} {v : Value} {L : List (Int × Bool)}
theorem DeAt.apart (h : DeAt w0 W p1 p2 p5 p6 pr p8 b m e odd fm fo v L) : (p1 ≠ pr ∧ p2 ≠ pr ∧ p5 ≠ pr ∧ p6 ≠ pr) ∧ p1 ≠ p8 ∧ p2 ≠ p8 ∧ p5 ≠ p8 ∧ p6 ≠ p8 := by
  obtain ⟨A, c, q1, q2, q3⟩ := h.fl.tk.sl
  exact ⟨⟨blk_ne q3 h.res (by decide), blk_ne h.fl.tk.er h.res (by decide), blk_ne h.fl.fn h.res (by decide), blk_ne h.fl.od h.res (by decide)⟩, blk_ne q3 h.fd (by decide), blk_ne h.fl.tk.er h.fd (by decide), blk_ne h.fl.fn h.fd (by decide), blk_ne h.fl.od h.fd (by decide)⟩
theorem DeAt.step (h : DeAt w0 W p1 p2 p5 p6 pr p8 b m e odd fm fo v L) {m' : Nat} {e' : Int} {odd' : Bool} (hf : FlAt w0 W' p1 p2 p5 p6 b m' e' odd') (hk : Kp3 p1 p2 p6 W W') : DeAt w0 W' p1 p2 p5 p6 pr p8 b m' e' odd' fm fo v L := by
  obtain ⟨A, c, q1, q2, q3⟩ := h.fl.tk.sl
  obtain ⟨⟨a1, a2, a3, a4⟩, a5, a6, a7, a8⟩ := h.apart
  exact { fl := hf, res := (hk.2 _ (blk_lt h.res) a1.symm a2.symm a4.symm).trans h.res, fd := (hk.2 _ (blk_lt h.fd) a5.symm a6.symm a8.symm).trans h.fd, lk := R_kp3 h.lk q3 (by decide) h.fl.tk.er (by decide) h.fl.od (by decide) hk, far := h.far }
theorem DeAt.take (h : DeAt w0 W p1 p2 p5 p6 pr p8 b m e odd fm fo v L) {m' : Nat} {e' : Int} (ht : TkAt w0 W' p1 p2 b m' e') (hk : Kp2 p1 p2 W W') : DeAt w0 W' p1 p2 p5 p6 pr p8 b m' e' odd fm fo v L :=
  h.step (h.fl.take ht hk) ⟨hk.1, fun k h1 h2 h3 _ => hk.2 k h1 h2 h3⟩
theorem DeAt.below (h : DeAt w0 W p1 p2 p5 p6 pr p8 b m e odd fm fo v L) (hb : Below W.heap.size W W') : DeAt w0 W' p1 p2 p5 p6 pr p8 b m e odd fm fo v L := by
  obtain ⟨A, c, q1, q2, q3⟩ := h.fl.tk.sl
  have hbb := h.fl.tk.bel.trans (hb.mono h.fl.tk.bel.size)
  exact { fl := h.fl.keep hbb (hb.block _ (blk_lt q3)) (hb.block _ (blk_lt h.fl.tk.er)) (hb.block _ (blk_lt h.fl.fn)) (hb.block _ (blk_lt h.fl.od)), res := (hb.block _ (blk_lt h.res)).trans h.res, fd := (hb.block _ (blk_lt h.fd)).trans h.fd, lk := Kd.R_below h.lk hb, far := h.far }
theorem DeAt.flset (h : DeAt w0 W p1 p2 p5 p6 pr p8 b m e odd fm fo v L) (i : Nat) (u : Value) : FlAt w0 (W.setCell ⟨p8, i, none⟩ u) p1 p2 p5 p6 b m e odd := by
  obtain ⟨_, a5, a6, a7, a8⟩ := h.apart
  exact h.fl.keep (h.fl.tk.bel.setCell (p := ⟨p8, i, none⟩) h.far.2.1 u) (Below.heap_setCell W ⟨p8, i, none⟩ u p1 a5) (Below.heap_setCell W ⟨p8, i, none⟩ u p2 a6) (Below.heap_setCell W ⟨p8, i, none⟩ u p5 a7) (Below.heap_setCell W ⟨p8, i, none⟩ u p6 a8)
theorem DeAt.lkset (h : DeAt w0 W p1 p2 p5 p6 pr p8 b m e odd fm fo v L) (i : Nat) (u : Value) : Kd.R Lk 35 (W.setCell ⟨p8, i, none⟩ u) w0.heap.size (fun _ => True) v L := by
  have hk : Kp3 p8 p8 p8 W (W.setCell ⟨p8, i, none⟩ u) := ⟨Nat.le_of_eq (by simp [World.setCell]), fun k _ hk _ _ => Below.heap_setCell W ⟨p8, i, none⟩ u k hk⟩
  exact R_kp3 h.lk h.fd (by decide) h.fd (by decide) h.fd (by decide) hk
theorem DeAt.setM (h : DeAt w0 W p1 p2 p5 p6 pr p8 b m e odd fm fo v L) (x : Int) : DeAt w0 (W.setCell ⟨p8, 0, none⟩ (.int .u64 x)) p1 p2 p5 p6 pr p8 b m e odd x fo v L :=
  { fl := h.flset 0 _, res := (Below.heap_setCell W ⟨p8, 0, none⟩ _ pr h.far.2.2).trans h.res, fd := blk_set h.fd 0 _, lk := h.lkset 0 _, far := h.far }
theorem DeAt.setOk (h : DeAt w0 W p1 p2 p5 p6 pr p8 b m e odd fm fo v L) (x : Bool) : DeAt w0 (W.setCell ⟨p8, 1, none⟩ (.bool x)) p1 p2 p5 p6 pr p8 b m e odd fm x v L :=
  { fl := h.flset 1 _, res := (Below.heap_setCell W ⟨p8, 1, none⟩ _ pr h.far.2.2).trans h.res, fd := blk_set h.fd 1 _, lk := h.lkset 1 _, far := h.far }
theorem DeAt.grown (h : DeAt w0 W p1 p2 p5 p6 pr p8 b m e odd fm fo v L) (hg : W.grownBy W' v.ownBlock) (hb : Below w0.heap.size w0 W') {v' : Value} {L' : List (Int × Bool)} (hl : Kd.R Lk 35 W' w0.heap.size (fun _ => True) v' L') : DeAt w0 (W'.setCell ⟨p8, 2, none⟩ v') p1 p2 p5 p6 pr p8 b m e odd fm fo v' L' ∧ W'.heap[p8]? = some (foundObj fm fo v) := by
  obtain ⟨A, c, q1, q2, q3⟩ := h.fl.tk.sl
  have g8 := blk_grown h.fd hg (Kd.R_ne h.lk h.fd (by decide))
  have gr := blk_grown h.res hg (Kd.R_ne h.lk h.res (by decide))
  have g1 := blk_grown q3 hg (Kd.R_ne h.lk q3 (by decide))
  have g2 := blk_grown h.fl.tk.er hg (Kd.R_ne h.lk h.fl.tk.er (by decide))
  have g5 := blk_grown h.fl.fn hg (Kd.R_ne h.lk h.fl.fn (by decide))
  have g6 := blk_grown h.fl.od hg (Kd.R_ne h.lk h.fl.od (by decide))
  obtain ⟨_, a5, a6, a7, a8⟩ := h.apart
  refine ⟨{ fl := ?_, res := (Below.heap_setCell W' ⟨p8, 2, none⟩ _ pr h.far.2.2).trans gr, fd := blk_set g8 2 _, lk := ?_, far := h.far }, g8⟩
  · exact h.fl.keep (hb.setCell (p := ⟨p8, 2, none⟩) h.far.2.1 v') ((Below.heap_setCell W' ⟨p8, 2, none⟩ v' p1 a5).trans (g1.trans q3.symm)) ((Below.heap_setCell W' ⟨p8, 2, none⟩ v' p2 a6).trans (g2.trans h.fl.tk.er.symm)) ((Below.heap_setCell W' ⟨p8, 2, none⟩ v' p5 a7).trans (g5.trans h.fl.fn.symm)) ((Below.heap_setCell W' ⟨p8, 2, none⟩ v' p6 a8).trans (g6.trans h.fl.od.symm))
  · have hk : Kp3 p8 p8 p8 W' (W'.setCell ⟨p8, 2, none⟩ v') := ⟨Nat.le_of_eq (by simp [World.setCell]), fun k _ hk _ _ => Below.heap_setCell W' ⟨p8, 2, none⟩ v' k hk⟩
    exact R_kp3 hl g8 (by decide) g8 (by decide) g8 (by decide) hk
theorem DeAt.setE (h : DeAt w0 W p1 p2 p5 p6 pr p8 b m e odd fm fo v L) (x : Int) : DeAt w0 (W.setCell ⟨p2, 0, none⟩ (.int .i64 x)) p1 p2 p5 p6 pr p8 b m x odd fm fo v L := by
  obtain ⟨A, c, q1, q2, q3⟩ := h.fl.tk.sl
  refine h.step { tk := { ord := h.fl.tk.ord, bel := h.fl.tk.bel.setCell (p := ⟨p2, 0, none⟩) h.fl.tk.ord.2.1 _, sl := ⟨A, c, q1, q2, (Below.heap_setCell W ⟨p2, 0, none⟩ _ p1 h.fl.tk.ord.2.2).trans q3⟩, er := blk_set h.fl.tk.er 0 _ }, fn := (Below.heap_setCell W ⟨p2, 0, none⟩ _ p5 h.fl.far.2.1).trans h.fl.fn, od := (Below.heap_setCell W ⟨p2, 0, none⟩ _ p6 h.fl.far.2.2.2.1).trans h.fl.od, far := h.fl.far } ⟨Nat.le_of_eq (by simp [World.setCell]), fun k _ _ hk _ => Below.heap_setCell W ⟨p2, 0, none⟩ _ k hk⟩
/-- What the walk reads of them. -/
theorem DeAt.facts (h : DeAt w0 W p1 p2 p5 p6 pr p8 b m e odd fm fo v L) : (∃ A c, W.cell? ⟨p1, 0, none⟩ = some (.slice A (b.length - m) c)) ∧ W.cell? ⟨p2, 0, none⟩ = some (.int .i64 e) ∧ W.frozen? ⟨p2, 0, none⟩ = false ∧
    W.cell? ⟨p5, 0, none⟩ = some (.func (.func 26) #[] #[.pointer (some ⟨p1, 0, none⟩), .pointer (some ⟨p2, 0, none⟩)]) ∧ W.cell? ⟨p6, 0, none⟩ = some (.bool odd) ∧
    (W.cell? ⟨p8, 0, none⟩ = some (.int .u64 fm) ∧ W.cell? ⟨p8, 1, none⟩ = some (.bool fo) ∧ W.cell? ⟨p8, 2, none⟩ = some v ∧ W.frozen? ⟨p8, 0, none⟩ = false ∧ W.frozen? ⟨p8, 1, none⟩ = false ∧ W.frozen? ⟨p8, 2, none⟩ = false) := by
  obtain ⟨A, c, q1, q2, q3⟩ := h.fl.tk.sl
  exact ⟨⟨A, c, blk_cell q3 0⟩, blk_cell h.fl.tk.er 0, blk_frozen h.fl.tk.er 0, blk_cell h.fl.fn 0, blk_cell h.fl.od 0, blk_cell h.fd 0, blk_cell h.fd 1, blk_cell h.fd 2, blk_frozen h.fd 0, blk_frozen h.fd 1, blk_frozen h.fd 2⟩
end
def tabDe12 : Bool × List (List Nat × List Nat) := (true, [([], []), ([0], [0]), ([], []), ([], []), ([3], [3]), ([2, 4], [2, 4]), ([5], [5]), ([1, 6, 4], [1, 6]), ([0, 1, 2, 3, 4, 5, 6, 7], []), ([8, 7, 7, 0, 1, 2, 3, 4, 5, 6, 7], [7, 8])])
theorem tabDe12_ok : rtab .any (opsOf Try.f17 12) = tabDe12 := by kernel_rfl
def tabDe16 : Bool × List (List Nat × List Nat) := (true, [([], []), ([], []), ([0, 0], [0]), ([1, 2, 0, 1, 2], [1])])
theorem tabDe16_ok : rtab .any (opsOf Try.f17 16) = tabDe16 := by kernel_rfl
theorem found_put {W : World} {g : Nat} {a0 : Int} {o0 : Bool} {v0 : Value} (h : W.heap[g]? = some (foundObj a0 o0 v0)) (a : Int) (o : Bool) (v : Value) :
    (((W.setCell ⟨g, 0, none⟩ (.int .u64 a)).setCell ⟨g, 1, none⟩ (.bool o)).setCell ⟨g, 2, none⟩ v).heap[g]? = some (foundObj a o v) := blk_set (blk_set (blk_set h 0 _) 1 _) 2 _
theorem found_far {W : World} {g k : Nat} (a : Int) (o : Bool) (v : Value) (hk : k ≠ g) :
    (((W.setCell ⟨g, 0, none⟩ (.int .u64 a)).setCell ⟨g, 1, none⟩ (.bool o)).setCell ⟨g, 2, none⟩ v).heap[k]? = W.heap[k]? :=
  (Below.heap_setCell _ ⟨g, 2, none⟩ v k hk).trans ((Below.heap_setCell _ ⟨g, 1, none⟩ (.bool o) k hk).trans (Below.heap_setCell _ ⟨g, 0, none⟩ (.int .u64 a) k hk))
theorem found_below {w W : World} {B g : Nat} (h : Below B w W) (hg : B ≤ g) (a : Int) (o : Bool) (v : Value) : Below B w (((W.setCell ⟨g, 0, none⟩ (.int .u64 a)).setCell ⟨g, 1, none⟩ (.bool o)).setCell ⟨g, 2, none⟩ v) :=
  (((h.setCell (p := ⟨g, 0, none⟩) hg (.int .u64 a)).setCell (p := ⟨g, 1, none⟩) hg (.bool o)).setCell (p := ⟨g, 2, none⟩) hg v)
theorem found_kp {W : World} {g : Nat} (a : Int) (o : Bool) (v : Value) : Kp3 g g g W (((W.setCell ⟨g, 0, none⟩ (.int .u64 a)).setCell ⟨g, 1, none⟩ (.bool o)).setCell ⟨g, 2, none⟩ v) :=
  ⟨Nat.le_of_eq (by simp [World.setCell]), fun k _ hk _ _ => found_far a o v hk⟩
theorem DeAt.zero {w0 W : World} {p1 p2 p5 p6 pr p8 : Nat} {b : List Int} {m : Nat} {e : Int} {odd : Bool} {fm : Int} {fo : Bool} {v : Value} {L : List (Int × Bool)} (h : DeAt w0 W p1 p2 p5 p6 pr p8 b m e odd fm fo v L) :
    (W.cell? ⟨pr, 0, none⟩ = some (.int .u64 0) ∧ W.cell? ⟨pr, 1, none⟩ = some (.bool false) ∧ W.cell? ⟨pr, 2, none⟩ = some (.slice none 0 0)) ∧ W.frozen? ⟨pr, 0, none⟩ = false ∧ W.frozen? ⟨pr, 1, none⟩ = false ∧ W.frozen? ⟨pr, 2, none⟩ = false :=
  ⟨⟨blk_cell h.res 0, blk_cell h.res 1, blk_cell h.res 2⟩, blk_frozen h.res 0, blk_frozen h.res 1, blk_frozen h.res 2⟩
theorem decode_start {A : Option Addr} {c : Nat} {b : List Int} {w : World} (hr : RdB w A b) (hc : b.length ≤ c) :
    DeAt w ((((((w.alloc (.cells #[.slice A b.length c] 42)).alloc (.cells #[.int .u64 0, .bool false, .slice none 0 0] 25)).alloc (.cells #[.int .i64 0] 44)).alloc (.cells #[.func (.func 26) #[] #[.pointer (some ⟨w.heap.size, 0, none⟩), .pointer (some ⟨w.heap.size + 1 + 1, 0, none⟩)]] 62)).alloc (.cells #[.bool false] 4)).alloc (.cells #[.int .u64 0, .bool false, .slice none 0 0] 25))
      w.heap.size (w.heap.size + 1 + 1) (w.heap.size + 1 + 1 + 1) (w.heap.size + 1 + 1 + 1 + 1) (w.heap.size + 1) (w.heap.size + 1 + 1 + 1 + 1 + 1) b 0 0 false 0 false (.slice none 0 0) [] := by
  have hz : ∀ (W : World) (o : Obj), (W.alloc o).heap.size = W.heap.size + 1 := fun W o => by simp
  have nw : ∀ (W : World) (k : Nat) (o : Obj), k = W.heap.size → (W.alloc o).heap[k]? = some o := fun W k o h => h ▸ blk_new W o
  refine { fl := { tk := { ord := ⟨by omega, by omega, by omega⟩, bel := ?_, sl := ⟨A, c, by omega, by simpa using hr, ?_⟩, er := ?_ }, fn := ?_, od := ?_, far := ⟨by omega, by omega, by omega, by omega, by omega, by omega⟩ }, res := ?_, fd := ?_, lk := Kd.R_nil _ _ _ _ _, far := ⟨by omega, by omega, by omega⟩ }
  · exact ((((((Below.refl w.heap.size w).alloc (by simp) _).alloc (by simp) _).alloc (by simp; omega) _).alloc (by simp; omega) _).alloc (by simp; omega) _).alloc (by simp; omega) _
  · exact blk_alloc (blk_alloc (blk_alloc (blk_alloc (blk_alloc (blk_new w _) _) _) _) _) _
  · exact blk_alloc (blk_alloc (blk_alloc (nw _ _ _ (by simp only [hz])) _) _) _
  · exact blk_alloc (blk_alloc (nw _ _ _ (by simp only [hz])) _) _
  · exact blk_alloc (nw _ _ _ (by simp only [hz])) _
  · exact blk_alloc (blk_alloc (blk_alloc (blk_alloc (nw _ _ _ (by simp only [hz])) _) _) _) _
  · exact nw _ _ _ (by simp only [hz])
/-- What was found, as Decode returns it. -/
def FdR (w W : World) (x : Ending) (f : Int × Bool × List (Int × Bool)) (e : Int) : Prop :=
  (∃ v, x = .returned (.tuple #[.agg #[.int .u64 f.1, .bool f.2.1, v], .int .i64 e]) ∧ Kd.R Lk 35 W w.heap.size (fun _ => True) v f.2.2) ∧ Below w.heap.size w W
set_option maxHeartbeats 3200000 in
set_option maxRecDepth 100000 in
theorem decodeP_any (A : Option Addr) (c : Nat) (b : List Int) (w : World) (hr : RdB w A b) (hc : b.length ≤ c) (hy : Byt b) :
    Calls Try.prog 17 #[.slice A b.length c] w fun x w' => FdR w w' x (decP b).1 (decP b).2 := by
  have hmx := C_max hr
  have hkk := gv_range hy 9 2
  have HKP := Aside0.mk (show ((kP b : Nat) : Int) = gv b 9 2 ∧ kP b ≤ 65535 by unfold kP; omega)
  have HR := Aside0.mk hr
  have HC := Aside0.mk hc
  have HY := Aside0.mk hy
  clear hr hc hy hkk
  have hmf : ∀ (fn : Fn) (first cap : Array Value) (w : World), (Instr.makeFunc fn first cap).run Try.prog w = .ok (.func fn first cap) w := fun _ _ _ _ => rfl
  have hst : ∀ (a : Addr) (fn : Fn) (first cap : Array Value) (w : World), (store a (.func fn first cap)).run Try.prog w = stored Try.prog w a (.func fn first cap) .plain := fun a fn first cap w => run_store Try.prog w a _ _ rfl
  go_enter Try.func17, Try.ntmps17
  go_upto_region 6 with (fail)
  obtain ⟨W0, hW0⟩ : ∃ W0, W0 = ((((((w.alloc (.cells #[.slice A b.length c] 42)).alloc (.cells #[.int .u64 0, .bool false, .slice none 0 0] 25)).alloc (.cells #[.int .i64 0] 44)).alloc (.cells #[.func (.func 26) #[] #[.pointer (some ⟨w.heap.size, 0, none⟩), .pointer (some ⟨w.heap.size + 1 + 1, 0, none⟩)]] 62)).alloc (.cells #[.bool false] 4)).alloc (.cells #[.int .u64 0, .bool false, .slice none 0 0] 25)) := ⟨_, rfl⟩
  rw [← hW0]
  have HD := Aside0.mk (show DeAt w W0 w.heap.size (w.heap.size + 1 + 1) (w.heap.size + 1 + 1 + 1) (w.heap.size + 1 + 1 + 1 + 1) (w.heap.size + 1) (w.heap.size + 1 + 1 + 1 + 1 + 1) b 0 0 false 0 false (.slice none 0 0) [] by rw [hW0]; exact decode_start HR.out HC.out)
  clear hW0 HR
  obtain ⟨p8, hp8⟩ : ∃ p, p = w.heap.size + 1 + 1 + 1 + 1 + 1 := ⟨_, rfl⟩
  rw [← hp8] at HD ⊢
  obtain ⟨p6, hp6⟩ : ∃ p, p = w.heap.size + 1 + 1 + 1 + 1 := ⟨_, rfl⟩
  rw [← hp6] at HD ⊢
  obtain ⟨p5, hp5⟩ : ∃ p, p = w.heap.size + 1 + 1 + 1 := ⟨_, rfl⟩
  rw [← hp5] at HD ⊢
  obtain ⟨p2, hp2⟩ : ∃ p, p = w.heap.size + 1 + 1 := ⟨_, rfl⟩
  rw [← hp2] at HD ⊢
  obtain ⟨pr, hpr⟩ : ∃ p, p = w.heap.size + 1 := ⟨_, rfl⟩
  rw [← hpr] at HD ⊢
  obtain ⟨p1, hp1⟩ : ∃ p, p = w.heap.size := ⟨_, rfl⟩
  rw [← hp1] at HD ⊢
  clear hp8 hp6 hp5 hp2 hpr hp1
  (try clear d1 d2 d3 d4 d5 d6 d7 d8 d9 d10 d11); obtain ⟨⟨A1, c1, d1⟩, d2, d3, d4, d5, d6, d7, d8, d9, d10, d11⟩ := HD.out.facts
  obtain ⟨⟨nr1, nr2, nr5, nr6⟩, n1, n2, n5, n6⟩ := HD.out.apart
  have n1' := n1.symm
  have n2' := n2.symm
  have n5' := n5.symm
  have n6' := n6.symm
  go_wp2_with (first
    | (go_at_call 28; go_must (refine (flag_any p1 p2 p5 p6 b 0 0 false w W0 HD.out.fl HY.out (Nat.zero_le _)).mono ?_; rintro x w1 ⟨rfl, hf, hk⟩; replace HD := Aside0.mk (HD.out.step hf hk); (try clear d1 d2 d3 d4 d5 d6 d7 d8 d9 d10 d11); obtain ⟨⟨A1, c1, d1⟩, d2, d3, d4, d5, d6, d7, d8, d9, d10, d11⟩ := HD.out.facts; clear hf hk))
    | (go_at_call 26; (with_reducible refine (tk_any p1 p2 b (tkM b 0 0 1) 8 (tkE b 0 0 1) 8 rfl w (w1.setCell ⟨p8, 1, none⟩ (.bool (flV b 0 0))) (HD.out.setOk (flV b 0 0)).fl.tk HY.out (by decide) (by decide) (tkM_le _ _ _ _ (Nat.zero_le _))).mono ?_); go_must (rintro x w2 ⟨rfl, ht, hk⟩; replace HD := Aside0.mk ((HD.out.setOk (flV b 0 0)).take ht hk); (try clear d1 d2 d3 d4 d5 d6 d7 d8 d9 d10 d11); obtain ⟨⟨A1, c1, d1⟩, d2, d3, d4, d5, d6, d7, d8, d9, d10, d11⟩ := HD.out.facts; clear ht hk))
    | (go_at_call 26; (with_reducible refine (tk_any p1 p2 b (tkM b (tkM b 0 0 1) (tkE b 0 0 1) 8) 2 (tkE b (tkM b 0 0 1) (tkE b 0 0 1) 8) 2 rfl w (w2.setCell ⟨p8, 0, none⟩ (.int .u64 (tkV b (tkM b 0 0 1) (tkE b 0 0 1) 8))) (HD.out.setM (tkV b (tkM b 0 0 1) (tkE b 0 0 1) 8)).fl.tk HY.out (by decide) (by decide) (tkM_le _ _ _ _ (tkM_le _ _ _ _ (Nat.zero_le _)))).mono ?_); go_must (rintro x w3 ⟨rfl, ht, hk⟩; replace HD := Aside0.mk ((HD.out.setM (tkV b (tkM b 0 0 1) (tkE b 0 0 1) 8)).take ht hk); (try clear d1 d2 d3 d4 d5 d6 d7 d8 d9 d10 d11); obtain ⟨⟨A1, c1, d1⟩, d2, d3, d4, d5, d6, d7, d8, d9, d10, d11⟩ := HD.out.facts; clear ht hk)))
  go_loopg [9] (kP b) (fun gk v w' => ∃ (n : Int) (m : Nat) (e : Int) (odd : Bool) (fm : Int) (fo : Bool) (u : Value) (L : List (Int × Bool)), v = .int .u64 n ∧ Aside0 (DeAt w w' p1 p2 p5 p6 pr p8 b m e odd fm fo u L) ∧ Aside0 (m ≤ b.length) ∧ Aside0 ((e = 14 ∧ decP b = ((0, false, []), 14) ∧ 0 ≤ n) ∨ (∃ j : Nat, e = 0 ∧ 11 + 9 * j ≤ b.length ∧ j ≤ kP b ∧ m = 11 + 9 * j ∧ odd = oddJ b j ∧ fm = gv b 1 8 ∧ fo = decide (gv b 0 1 = 1) ∧ L = (List.range j).map (lookAt b) ∧ n = ((kP b - j : Nat) : Int) ∧ gk = kP b - j)))
  case atStart =>
    refine ⟨_, _, _, _, _, _, _, _, rfl, HD, ⟨tkM_le _ _ _ _ (tkM_le _ _ _ _ (tkM_le _ _ _ _ (Nat.zero_le _)))⟩, ⟨?_⟩⟩
    by_cases h11 : b.length < 11
    · have hh := head_no h11
      exact .inl ⟨hh.2, decP_head h11, by rw [hh.1]; exact Int.le_refl _⟩
    · obtain ⟨⟨q1, q2⟩, ⟨q3, q4, q5⟩, q6, q7, q8⟩ := head_yes (b := b) (by omega)
      refine .inr ⟨0, ?_, by omega, Nat.zero_le _, ?_, ?_, ?_, ?_, rfl, ?_, by omega⟩
      · rw [q1, q2, q3, q4, q7]
      · rw [q1, q2, q3, q4, q6]
      · simp [flO, oddJ, tkV]
      · rw [q1, q2, q5]
      · simp [flV, tkV]
      · rw [q1, q2, q3, q4, q8, Nat.sub_zero, HKP.out.1]
  case round =>
    clear HD d1 d2 d3 d4 d5 d6 d7 d8 d9 d10 d11
    obtain ⟨n, m, e, odd, fm, fo, u, L, rfl, HD, HM, HJ⟩ := hrel
    obtain ⟨A8, c8, rfl⟩ := Kd.R_slice HD.out.lk
    (try clear d1 d2 d3 d4 d5 d6 d7 d8 d9 d10 d11); obtain ⟨⟨A1, c1, d1⟩, d2, d3, d4, d5, d6, d7, d8, d9, d10, d11⟩ := HD.out.facts
    rcases HJ.out with ⟨rfl, hdec, hn0⟩ | ⟨j, rfl, hlen, hjk, hm, hodd, hfm, hfo, hL, hn, hgk⟩
    · have HDEC := Aside0.mk hdec
      clear HJ hdec
      by_cases hn : n > 0
      · cases odd with
        | true =>
          have HE := HDEC
          go_wp2_with (fail)
          clear d1 d2 d3 d4 d5 d6 d7 d8 d9 d10 d11
          have HB := Aside0.mk (Below.refl wr.heap.size wr)
          obtain ⟨⟨r0, r1, r2⟩, zr0, zr1, zr2⟩ := HD.out.zero
          refine start_ (n := 4) (S := fun w' => w'.cell? ⟨p2, 0, none⟩ = some (.int .i64 14)) (ds := []) #[false, false, false, false] (by kernel_rfl) rfl rfl (pw_cell_below (below_drew (Below.refl _ _)) (blk_cell HD.out.fl.tk.er 0)) (fun hHeld => ?_); refine with_tab tabDe16_ok (fun HT_ => ?_)
          have hb : Below wr.heap.size wr wr.drew := below_drew (Below.refl _ _)
          replace HB := Aside0.mk (HB.out.trans (hb.mono HB.out.size))
          clear hb
          refine pure_ (i := 0) (N := some 52) (v := ?_) (a' := ?_) #[true, false, false, false] rfl rfl (any_of HT_.out (by kernel_rfl)) (fun _ _ _ h => h) (Or.inl ⟨by rfl, ?_⟩) ?_ ?_
          rotate_left
          · intro w'
            go_simp
            with_reducible rfl
          rotate_left
          · simp only [Act.put, List.setIfInBounds_toArray, List.set_cons_zero, List.set_cons_succ]
            rfl
          refine take_ (i := 1) (N := some 53) (v := ?_) (a' := ?_) #[true, true, false, false] rfl rfl (take_of HT_.out (by kernel_rfl)) (fun _ _ _ h => h) (Or.inl ⟨by rfl, ?_⟩) hHeld ?_ ?_
          rotate_left
          · intro w' hw'
            skip
            go_simp
            with_reducible rfl
          rotate_left
          · simp only [Act.put, List.setIfInBounds_toArray, List.set_cons_zero, List.set_cons_succ]
            rfl
          refine one_ (i := 2) (N := none) #[true, true, true, false] rfl rfl (one_of HT_.out (by kernel_rfl)) (by decide) (fun Kq_ hK_ => ?_)
          refine skip_ (w1 := ?_) (by rfl) rfl ?_ ?_
          rotate_left
          · go_simp
            first | done | rfl
          refine hK_.out _ _ (blk_cell (show (((wr.setCell ⟨pr, 0, none⟩ (.int .u64 0)).setCell ⟨pr, 1, none⟩ (.bool false)).setCell ⟨pr, 2, none⟩ (.slice none 0 0)).drew.heap[p2]? = _ from (found_far 0 false (.slice none 0 0) nr2).trans HD.out.fl.tk.er) 0) (fun hHeld => ?_)
          clear hK_ Kq_
          refine pure_ (i := 3) (N := some 3) (v := ?_) (a' := ?_) #[true, true, true, true] rfl rfl (any_of HT_.out (by kernel_rfl)) (fun _ _ _ h => h) (Or.inl ⟨by rfl, ?_⟩) ?_ ?_
          rotate_left
          · intro w'
            go_simp
            with_reducible rfl
          rotate_left
          · simp only [Act.put, List.setIfInBounds_toArray, List.set_cons_zero, List.set_cons_succ]
            rfl
          refine done_ (done_of HT_.out (by kernel_rfl)) ?_
          clear HT_ hHeld r0 r1 r2 zr0 zr1 zr2
          obtain ⟨WZ, hWZ⟩ : ∃ WZ, WZ = (((wr.setCell ⟨pr, 0, none⟩ (.int .u64 0)).setCell ⟨pr, 1, none⟩ (.bool false)).setCell ⟨pr, 2, none⟩ (.slice none 0 0)).drew := ⟨_, rfl⟩
          rw [← hWZ]
          have hz : WZ.heap[pr]? = some (foundObj 0 false (.slice none 0 0)) := by rw [hWZ]; exact found_put HD.out.res 0 false _
          have hbz : Below w.heap.size w WZ := by rw [hWZ]; exact below_drew (found_below HD.out.fl.tk.bel HD.out.far.1 0 false _)
          obtain ⟨t0, t1, t2⟩ := found_cells hz
          clear hWZ hz
          go_wp2
          refine bodyPost_ret (v := .tuple #[.agg #[.int .u64 0, .bool false, .slice none 0 0], .int .i64 14]) (by simp [results, Try.results17, go_sem, t0, t1, t2]) rfl ?_
          rw [HE.out]
          exact ⟨⟨_, rfl, Kd.R_nil _ _ _ _ _⟩, hbz⟩
        | false =>
          obtain ⟨l1, hl1e⟩ : ∃ l, l = b.length - m := ⟨_, rfl⟩
          rw [← hl1e] at d1
          have HL1 := Aside0.mk hl1e
          clear hl1e
          by_cases hl1 : 0 < l1
          · have hl2 : (l1 : Int) > 0 := by omega
            have HE := HDEC
            go_wp2_with (fail)
            clear d1 d2 d3 d4 d5 d6 d7 d8 d9 d10 d11
            have HB := Aside0.mk (Below.refl wr.heap.size wr)
            obtain ⟨⟨r0, r1, r2⟩, zr0, zr1, zr2⟩ := HD.out.zero
            refine start_ (n := 4) (S := fun w' => w'.cell? ⟨p2, 0, none⟩ = some (.int .i64 14)) (ds := []) #[false, false, false, false] (by kernel_rfl) rfl rfl (pw_cell_below (below_drew (Below.refl _ _)) (blk_cell HD.out.fl.tk.er 0)) (fun hHeld => ?_); refine with_tab tabDe16_ok (fun HT_ => ?_)
            have hb : Below wr.heap.size wr wr.drew := below_drew (Below.refl _ _)
            replace HB := Aside0.mk (HB.out.trans (hb.mono HB.out.size))
            clear hb
            refine pure_ (i := 0) (N := some 52) (v := ?_) (a' := ?_) #[true, false, false, false] rfl rfl (any_of HT_.out (by kernel_rfl)) (fun _ _ _ h => h) (Or.inl ⟨by rfl, ?_⟩) ?_ ?_
            rotate_left
            · intro w'
              go_simp
              with_reducible rfl
            rotate_left
            · simp only [Act.put, List.setIfInBounds_toArray, List.set_cons_zero, List.set_cons_succ]
              rfl
            refine take_ (i := 1) (N := some 53) (v := ?_) (a' := ?_) #[true, true, false, false] rfl rfl (take_of HT_.out (by kernel_rfl)) (fun _ _ _ h => h) (Or.inl ⟨by rfl, ?_⟩) hHeld ?_ ?_
            rotate_left
            · intro w' hw'
              skip
              go_simp
              with_reducible rfl
            rotate_left
            · simp only [Act.put, List.setIfInBounds_toArray, List.set_cons_zero, List.set_cons_succ]
              rfl
            refine one_ (i := 2) (N := none) #[true, true, true, false] rfl rfl (one_of HT_.out (by kernel_rfl)) (by decide) (fun Kq_ hK_ => ?_)
            refine skip_ (w1 := ?_) (by rfl) rfl ?_ ?_
            rotate_left
            · go_simp
              first | done | rfl
            refine hK_.out _ _ (blk_cell (show (((wr.setCell ⟨pr, 0, none⟩ (.int .u64 0)).setCell ⟨pr, 1, none⟩ (.bool false)).setCell ⟨pr, 2, none⟩ (.slice none 0 0)).drew.heap[p2]? = _ from (found_far 0 false (.slice none 0 0) nr2).trans HD.out.fl.tk.er) 0) (fun hHeld => ?_)
            clear hK_ Kq_
            refine pure_ (i := 3) (N := some 3) (v := ?_) (a' := ?_) #[true, true, true, true] rfl rfl (any_of HT_.out (by kernel_rfl)) (fun _ _ _ h => h) (Or.inl ⟨by rfl, ?_⟩) ?_ ?_
            rotate_left
            · intro w'
              go_simp
              with_reducible rfl
            rotate_left
            · simp only [Act.put, List.setIfInBounds_toArray, List.set_cons_zero, List.set_cons_succ]
              rfl
            refine done_ (done_of HT_.out (by kernel_rfl)) ?_
            clear HT_ hHeld r0 r1 r2 zr0 zr1 zr2
            obtain ⟨WZ, hWZ⟩ : ∃ WZ, WZ = (((wr.setCell ⟨pr, 0, none⟩ (.int .u64 0)).setCell ⟨pr, 1, none⟩ (.bool false)).setCell ⟨pr, 2, none⟩ (.slice none 0 0)).drew := ⟨_, rfl⟩
            rw [← hWZ]
            have hz : WZ.heap[pr]? = some (foundObj 0 false (.slice none 0 0)) := by rw [hWZ]; exact found_put HD.out.res 0 false _
            have hbz : Below w.heap.size w WZ := by rw [hWZ]; exact below_drew (found_below HD.out.fl.tk.bel HD.out.far.1 0 false _)
            obtain ⟨t0, t1, t2⟩ := found_cells hz
            clear hWZ hz
            go_wp2
            refine bodyPost_ret (v := .tuple #[.agg #[.int .u64 0, .bool false, .slice none 0 0], .int .i64 14]) (by simp [results, Try.results17, go_sem, t0, t1, t2]) rfl ?_
            rw [HE.out]
            exact ⟨⟨_, rfl, Kd.R_nil _ _ _ _ _⟩, hbz⟩
          · have hl2 : ¬ (l1 : Int) > 0 := by omega
            have HE := HDEC
            go_wp2_with (fail)
            clear d1 d2 d3 d4 d5 d6 d7 d8 d9 d10 d11
            have HB := Aside0.mk (Below.refl wr.heap.size wr)
            obtain ⟨⟨r0, r1, r2⟩, zr0, zr1, zr2⟩ := HD.out.zero
            refine start_ (n := 4) (S := fun w' => w'.cell? ⟨p2, 0, none⟩ = some (.int .i64 14)) (ds := []) #[false, false, false, false] (by kernel_rfl) rfl rfl (pw_cell_below (below_drew (Below.refl _ _)) (blk_cell HD.out.fl.tk.er 0)) (fun hHeld => ?_); refine with_tab tabDe16_ok (fun HT_ => ?_)
            have hb : Below wr.heap.size wr wr.drew := below_drew (Below.refl _ _)
            replace HB := Aside0.mk (HB.out.trans (hb.mono HB.out.size))
            clear hb
            refine pure_ (i := 0) (N := some 52) (v := ?_) (a' := ?_) #[true, false, false, false] rfl rfl (any_of HT_.out (by kernel_rfl)) (fun _ _ _ h => h) (Or.inl ⟨by rfl, ?_⟩) ?_ ?_
            rotate_left
            · intro w'
              go_simp
              with_reducible rfl
            rotate_left
            · simp only [Act.put, List.setIfInBounds_toArray, List.set_cons_zero, List.set_cons_succ]
              rfl
            refine take_ (i := 1) (N := some 53) (v := ?_) (a' := ?_) #[true, true, false, false] rfl rfl (take_of HT_.out (by kernel_rfl)) (fun _ _ _ h => h) (Or.inl ⟨by rfl, ?_⟩) hHeld ?_ ?_
            rotate_left
            · intro w' hw'
              skip
              go_simp
              with_reducible rfl
            rotate_left
            · simp only [Act.put, List.setIfInBounds_toArray, List.set_cons_zero, List.set_cons_succ]
              rfl
            refine one_ (i := 2) (N := none) #[true, true, true, false] rfl rfl (one_of HT_.out (by kernel_rfl)) (by decide) (fun Kq_ hK_ => ?_)
            refine skip_ (w1 := ?_) (by rfl) rfl ?_ ?_
            rotate_left
            · go_simp
              first | done | rfl
            refine hK_.out _ _ (blk_cell (show (((wr.setCell ⟨pr, 0, none⟩ (.int .u64 0)).setCell ⟨pr, 1, none⟩ (.bool false)).setCell ⟨pr, 2, none⟩ (.slice none 0 0)).drew.heap[p2]? = _ from (found_far 0 false (.slice none 0 0) nr2).trans HD.out.fl.tk.er) 0) (fun hHeld => ?_)
            clear hK_ Kq_
            refine pure_ (i := 3) (N := some 3) (v := ?_) (a' := ?_) #[true, true, true, true] rfl rfl (any_of HT_.out (by kernel_rfl)) (fun _ _ _ h => h) (Or.inl ⟨by rfl, ?_⟩) ?_ ?_
            rotate_left
            · intro w'
              go_simp
              with_reducible rfl
            rotate_left
            · simp only [Act.put, List.setIfInBounds_toArray, List.set_cons_zero, List.set_cons_succ]
              rfl
            refine done_ (done_of HT_.out (by kernel_rfl)) ?_
            clear HT_ hHeld r0 r1 r2 zr0 zr1 zr2
            obtain ⟨WZ, hWZ⟩ : ∃ WZ, WZ = (((wr.setCell ⟨pr, 0, none⟩ (.int .u64 0)).setCell ⟨pr, 1, none⟩ (.bool false)).setCell ⟨pr, 2, none⟩ (.slice none 0 0)).drew := ⟨_, rfl⟩
            rw [← hWZ]
            have hz : WZ.heap[pr]? = some (foundObj 0 false (.slice none 0 0)) := by rw [hWZ]; exact found_put HD.out.res 0 false _
            have hbz : Below w.heap.size w WZ := by rw [hWZ]; exact below_drew (found_below HD.out.fl.tk.bel HD.out.far.1 0 false _)
            obtain ⟨t0, t1, t2⟩ := found_cells hz
            clear hWZ hz
            go_wp2
            refine bodyPost_ret (v := .tuple #[.agg #[.int .u64 0, .bool false, .slice none 0 0], .int .i64 14]) (by simp [results, Try.results17, go_sem, t0, t1, t2]) rfl ?_
            rw [HE.out]
            exact ⟨⟨_, rfl, Kd.R_nil _ _ _ _ _⟩, hbz⟩
      · cases odd with
        | true =>
          have HE := HDEC
          go_wp2_with (fail)
          clear d1 d2 d3 d4 d5 d6 d7 d8 d9 d10 d11
          have HB := Aside0.mk (Below.refl wr.heap.size wr)
          obtain ⟨⟨r0, r1, r2⟩, zr0, zr1, zr2⟩ := HD.out.zero
          refine start_ (n := 4) (S := fun w' => w'.cell? ⟨p2, 0, none⟩ = some (.int .i64 14)) (ds := []) #[false, false, false, false] (by kernel_rfl) rfl rfl (pw_cell_below (below_drew (Below.refl _ _)) (blk_cell HD.out.fl.tk.er 0)) (fun hHeld => ?_); refine with_tab tabDe16_ok (fun HT_ => ?_)
          have hb : Below wr.heap.size wr wr.drew := below_drew (Below.refl _ _)
          replace HB := Aside0.mk (HB.out.trans (hb.mono HB.out.size))
          clear hb
          refine pure_ (i := 0) (N := some 52) (v := ?_) (a' := ?_) #[true, false, false, false] rfl rfl (any_of HT_.out (by kernel_rfl)) (fun _ _ _ h => h) (Or.inl ⟨by rfl, ?_⟩) ?_ ?_
          rotate_left
          · intro w'
            go_simp
            with_reducible rfl
          rotate_left
          · simp only [Act.put, List.setIfInBounds_toArray, List.set_cons_zero, List.set_cons_succ]
            rfl
          refine take_ (i := 1) (N := some 53) (v := ?_) (a' := ?_) #[true, true, false, false] rfl rfl (take_of HT_.out (by kernel_rfl)) (fun _ _ _ h => h) (Or.inl ⟨by rfl, ?_⟩) hHeld ?_ ?_
          rotate_left
          · intro w' hw'
            skip
            go_simp
            with_reducible rfl
          rotate_left
          · simp only [Act.put, List.setIfInBounds_toArray, List.set_cons_zero, List.set_cons_succ]
            rfl
          refine one_ (i := 2) (N := none) #[true, true, true, false] rfl rfl (one_of HT_.out (by kernel_rfl)) (by decide) (fun Kq_ hK_ => ?_)
          refine skip_ (w1 := ?_) (by rfl) rfl ?_ ?_
          rotate_left
          · go_simp
            first | done | rfl
          refine hK_.out _ _ (blk_cell (show (((wr.setCell ⟨pr, 0, none⟩ (.int .u64 0)).setCell ⟨pr, 1, none⟩ (.bool false)).setCell ⟨pr, 2, none⟩ (.slice none 0 0)).drew.heap[p2]? = _ from (found_far 0 false (.slice none 0 0) nr2).trans HD.out.fl.tk.er) 0) (fun hHeld => ?_)
          clear hK_ Kq_
          refine pure_ (i := 3) (N := some 3) (v := ?_) (a' := ?_) #[true, true, true, true] rfl rfl (any_of HT_.out (by kernel_rfl)) (fun _ _ _ h => h) (Or.inl ⟨by rfl, ?_⟩) ?_ ?_
          rotate_left
          · intro w'
            go_simp
            with_reducible rfl
          rotate_left
          · simp only [Act.put, List.setIfInBounds_toArray, List.set_cons_zero, List.set_cons_succ]
            rfl
          refine done_ (done_of HT_.out (by kernel_rfl)) ?_
          clear HT_ hHeld r0 r1 r2 zr0 zr1 zr2
          obtain ⟨WZ, hWZ⟩ : ∃ WZ, WZ = (((wr.setCell ⟨pr, 0, none⟩ (.int .u64 0)).setCell ⟨pr, 1, none⟩ (.bool false)).setCell ⟨pr, 2, none⟩ (.slice none 0 0)).drew := ⟨_, rfl⟩
          rw [← hWZ]
          have hz : WZ.heap[pr]? = some (foundObj 0 false (.slice none 0 0)) := by rw [hWZ]; exact found_put HD.out.res 0 false _
          have hbz : Below w.heap.size w WZ := by rw [hWZ]; exact below_drew (found_below HD.out.fl.tk.bel HD.out.far.1 0 false _)
          obtain ⟨t0, t1, t2⟩ := found_cells hz
          clear hWZ hz
          go_wp2
          refine bodyPost_ret (v := .tuple #[.agg #[.int .u64 0, .bool false, .slice none 0 0], .int .i64 14]) (by simp [results, Try.results17, go_sem, t0, t1, t2]) rfl ?_
          rw [HE.out]
          exact ⟨⟨_, rfl, Kd.R_nil _ _ _ _ _⟩, hbz⟩
        | false =>
          obtain ⟨l1, hl1e⟩ : ∃ l, l = b.length - m := ⟨_, rfl⟩
          rw [← hl1e] at d1
          have HL1 := Aside0.mk hl1e
          clear hl1e
          by_cases hl1 : 0 < l1
          · have hl2 : (l1 : Int) > 0 := by omega
            have HE := HDEC
            go_wp2_with (fail)
            clear d1 d2 d3 d4 d5 d6 d7 d8 d9 d10 d11
            have HB := Aside0.mk (Below.refl wr.heap.size wr)
            obtain ⟨⟨r0, r1, r2⟩, zr0, zr1, zr2⟩ := HD.out.zero
            refine start_ (n := 4) (S := fun w' => w'.cell? ⟨p2, 0, none⟩ = some (.int .i64 14)) (ds := []) #[false, false, false, false] (by kernel_rfl) rfl rfl (pw_cell_below (below_drew (Below.refl _ _)) (blk_cell HD.out.fl.tk.er 0)) (fun hHeld => ?_); refine with_tab tabDe16_ok (fun HT_ => ?_)
            have hb : Below wr.heap.size wr wr.drew := below_drew (Below.refl _ _)
            replace HB := Aside0.mk (HB.out.trans (hb.mono HB.out.size))
            clear hb
            refine pure_ (i := 0) (N := some 52) (v := ?_) (a' := ?_) #[true, false, false, false] rfl rfl (any_of HT_.out (by kernel_rfl)) (fun _ _ _ h => h) (Or.inl ⟨by rfl, ?_⟩) ?_ ?_
            rotate_left
            · intro w'
              go_simp
              with_reducible rfl
            rotate_left
            · simp only [Act.put, List.setIfInBounds_toArray, List.set_cons_zero, List.set_cons_succ]
              rfl
            refine take_ (i := 1) (N := some 53) (v := ?_) (a' := ?_) #[true, true, false, false] rfl rfl (take_of HT_.out (by kernel_rfl)) (fun _ _ _ h => h) (Or.inl ⟨by rfl, ?_⟩) hHeld ?_ ?_
            rotate_left
            · intro w' hw'
              skip
              go_simp
              with_reducible rfl
            rotate_left
            · simp only [Act.put, List.setIfInBounds_toArray, List.set_cons_zero, List.set_cons_succ]
              rfl
            refine one_ (i := 2) (N := none) #[true, true, true, false] rfl rfl (one_of HT_.out (by kernel_rfl)) (by decide) (fun Kq_ hK_ => ?_)
            refine skip_ (w1 := ?_) (by rfl) rfl ?_ ?_
            rotate_left
            · go_simp
              first | done | rfl
            refine hK_.out _ _ (blk_cell (show (((wr.setCell ⟨pr, 0, none⟩ (.int .u64 0)).setCell ⟨pr, 1, none⟩ (.bool false)).setCell ⟨pr, 2, none⟩ (.slice none 0 0)).drew.heap[p2]? = _ from (found_far 0 false (.slice none 0 0) nr2).trans HD.out.fl.tk.er) 0) (fun hHeld => ?_)
            clear hK_ Kq_
            refine pure_ (i := 3) (N := some 3) (v := ?_) (a' := ?_) #[true, true, true, true] rfl rfl (any_of HT_.out (by kernel_rfl)) (fun _ _ _ h => h) (Or.inl ⟨by rfl, ?_⟩) ?_ ?_
            rotate_left
            · intro w'
              go_simp
              with_reducible rfl
            rotate_left
            · simp only [Act.put, List.setIfInBounds_toArray, List.set_cons_zero, List.set_cons_succ]
              rfl
            refine done_ (done_of HT_.out (by kernel_rfl)) ?_
            clear HT_ hHeld r0 r1 r2 zr0 zr1 zr2
            obtain ⟨WZ, hWZ⟩ : ∃ WZ, WZ = (((wr.setCell ⟨pr, 0, none⟩ (.int .u64 0)).setCell ⟨pr, 1, none⟩ (.bool false)).setCell ⟨pr, 2, none⟩ (.slice none 0 0)).drew := ⟨_, rfl⟩
            rw [← hWZ]
            have hz : WZ.heap[pr]? = some (foundObj 0 false (.slice none 0 0)) := by rw [hWZ]; exact found_put HD.out.res 0 false _
            have hbz : Below w.heap.size w WZ := by rw [hWZ]; exact below_drew (found_below HD.out.fl.tk.bel HD.out.far.1 0 false _)
            obtain ⟨t0, t1, t2⟩ := found_cells hz
            clear hWZ hz
            go_wp2
            refine bodyPost_ret (v := .tuple #[.agg #[.int .u64 0, .bool false, .slice none 0 0], .int .i64 14]) (by simp [results, Try.results17, go_sem, t0, t1, t2]) rfl ?_
            rw [HE.out]
            exact ⟨⟨_, rfl, Kd.R_nil _ _ _ _ _⟩, hbz⟩
          · have hl2 : ¬ (l1 : Int) > 0 := by omega
            have HE := HDEC
            go_wp2_with (fail)
            clear d1 d2 d3 d4 d5 d6 d7 d8 d9 d10 d11
            have HB := Aside0.mk (Below.refl wr.heap.size wr)
            obtain ⟨⟨r0, r1, r2⟩, zr0, zr1, zr2⟩ := HD.out.zero
            refine start_ (n := 4) (S := fun w' => w'.cell? ⟨p2, 0, none⟩ = some (.int .i64 14)) (ds := []) #[false, false, false, false] (by kernel_rfl) rfl rfl (pw_cell_below (below_drew (Below.refl _ _)) (blk_cell HD.out.fl.tk.er 0)) (fun hHeld => ?_); refine with_tab tabDe16_ok (fun HT_ => ?_)
            have hb : Below wr.heap.size wr wr.drew := below_drew (Below.refl _ _)
            replace HB := Aside0.mk (HB.out.trans (hb.mono HB.out.size))
            clear hb
            refine pure_ (i := 0) (N := some 52) (v := ?_) (a' := ?_) #[true, false, false, false] rfl rfl (any_of HT_.out (by kernel_rfl)) (fun _ _ _ h => h) (Or.inl ⟨by rfl, ?_⟩) ?_ ?_
            rotate_left
            · intro w'
              go_simp
              with_reducible rfl
            rotate_left
            · simp only [Act.put, List.setIfInBounds_toArray, List.set_cons_zero, List.set_cons_succ]
              rfl
            refine take_ (i := 1) (N := some 53) (v := ?_) (a' := ?_) #[true, true, false, false] rfl rfl (take_of HT_.out (by kernel_rfl)) (fun _ _ _ h => h) (Or.inl ⟨by rfl, ?_⟩) hHeld ?_ ?_
            rotate_left
            · intro w' hw'
              skip
              go_simp
              with_reducible rfl
            rotate_left
            · simp only [Act.put, List.setIfInBounds_toArray, List.set_cons_zero, List.set_cons_succ]
              rfl
            refine one_ (i := 2) (N := none) #[true, true, true, false] rfl rfl (one_of HT_.out (by kernel_rfl)) (by decide) (fun Kq_ hK_ => ?_)
            refine skip_ (w1 := ?_) (by rfl) rfl ?_ ?_
            rotate_left
            · go_simp
              first | done | rfl
            refine hK_.out _ _ (blk_cell (show (((wr.setCell ⟨pr, 0, none⟩ (.int .u64 0)).setCell ⟨pr, 1, none⟩ (.bool false)).setCell ⟨pr, 2, none⟩ (.slice none 0 0)).drew.heap[p2]? = _ from (found_far 0 false (.slice none 0 0) nr2).trans HD.out.fl.tk.er) 0) (fun hHeld => ?_)
            clear hK_ Kq_
            refine pure_ (i := 3) (N := some 3) (v := ?_) (a' := ?_) #[true, true, true, true] rfl rfl (any_of HT_.out (by kernel_rfl)) (fun _ _ _ h => h) (Or.inl ⟨by rfl, ?_⟩) ?_ ?_
            rotate_left
            · intro w'
              go_simp
              with_reducible rfl
            rotate_left
            · simp only [Act.put, List.setIfInBounds_toArray, List.set_cons_zero, List.set_cons_succ]
              rfl
            refine done_ (done_of HT_.out (by kernel_rfl)) ?_
            clear HT_ hHeld r0 r1 r2 zr0 zr1 zr2
            obtain ⟨WZ, hWZ⟩ : ∃ WZ, WZ = (((wr.setCell ⟨pr, 0, none⟩ (.int .u64 0)).setCell ⟨pr, 1, none⟩ (.bool false)).setCell ⟨pr, 2, none⟩ (.slice none 0 0)).drew := ⟨_, rfl⟩
            rw [← hWZ]
            have hz : WZ.heap[pr]? = some (foundObj 0 false (.slice none 0 0)) := by rw [hWZ]; exact found_put HD.out.res 0 false _
            have hbz : Below w.heap.size w WZ := by rw [hWZ]; exact below_drew (found_below HD.out.fl.tk.bel HD.out.far.1 0 false _)
            obtain ⟨t0, t1, t2⟩ := found_cells hz
            clear hWZ hz
            go_wp2
            refine bodyPost_ret (v := .tuple #[.agg #[.int .u64 0, .bool false, .slice none 0 0], .int .i64 14]) (by simp [results, Try.results17, go_sem, t0, t1, t2]) rfl ?_
            rw [HE.out]
            exact ⟨⟨_, rfl, Kd.R_nil _ _ _ _ _⟩, hbz⟩
    · have HQ := Aside0.mk (And.intro hlen (And.intro hjk (And.intro hm (And.intro hodd (And.intro hfm (And.intro hfo (And.intro hL (And.intro hn hgk))))))))
      clear HJ hlen hm hodd hfm hfo hL hgk
      by_cases hlt : j < kP b
      · have hn0 : n > 0 := by omega
        have hn1 : 0 < n := hn0
        have HN := Aside0.mk hn
        have e6 : IntKind.u64.wrap (n - 1) = n - 1 := wrap_u64_in _ (by omega) (by have := HKP.out.2; omega)
        have HLT := Aside0.mk hlt
        clear hn hjk hlt
        go_upto_region 12 with (go_at_call 26; go_must (refine (tk_any p1 p2 b m 8 0 8 rfl w wr HD.out.fl.tk HY.out (by decide) (by decide) HM.out).mono ?_; rintro x w1 ⟨rfl, ht, hk⟩; replace HD := Aside0.mk (HD.out.take ht hk); (try clear d1 d2 d3 d4 d5 d6 d7 d8 d9 d10 d11); obtain ⟨⟨A1, c1, d1⟩, d2, d3, d4, d5, d6, d7, d8, d9, d10, d11⟩ := HD.out.facts; clear ht hk))
        obtain ⟨x8, hx8⟩ : ∃ x, x = tkV b m 0 8 := ⟨_, rfl⟩
        rw [← hx8]
        obtain ⟨m8, hm8⟩ : ∃ x, x = tkM b m 0 8 := ⟨_, rfl⟩
        obtain ⟨e8, he8⟩ : ∃ x, x = tkE b m 0 8 := ⟨_, rfl⟩
        rw [← hm8, ← he8] at HD
        have HMM := Aside0.mk (show m8 ≤ b.length by rw [hm8]; exact tkM_le _ _ _ _ HM.out)
        have H8 := Aside0.mk (And.intro hx8 (And.intro hm8 he8))
        clear hx8 hm8 he8 d1 d2 d3 d4 d5 d6 d7 d8 d9 d10 d11
        have HB := Aside0.mk (Below.refl w1.heap.size w1)
        have HLN := Aside0.mk (show L.length ≤ 65535 by obtain ⟨q1, q2, q3, q4, q5, q6, q7, q8, q9⟩ := HQ.out; rw [q7, List.length_map, List.length_range]; have := HKP.out.2; omega)
        refine start_ (n := 10) (S := fun w' => w'.cell? ⟨p8, 2, none⟩ = some (.slice A8 L.length c8)) (ds := [9]) #[false, false, false, false, false, false, false, false, false, false] (by kernel_rfl) rfl rfl (pw_cell_below (below_drew (Below.refl _ _)) (blk_cell HD.out.fd 2)) (fun hHeld => ?_); refine with_tab tabDe12_ok (fun HT_ => ?_)
        have hb : Below w1.heap.size w1 w1.drew := below_drew (Below.refl _ _)
        replace HB := Aside0.mk (HB.out.trans (hb.mono HB.out.size))
        clear hb
        replace HD := Aside0.mk (HD.out.below (below_drew (Below.refl _ _)))
        refine pure_ (i := 0) (N := some 31) (v := ?_) (a' := ?_) #[true, false, false, false, false, false, false, false, false, false] rfl rfl (any_of HT_.out (by kernel_rfl)) (fun _ _ _ h => h) (Or.inl ⟨by rfl, ?_⟩) ?_ ?_
        rotate_left
        · intro w'
          go_simp
          with_reducible rfl
        rotate_left
        · simp only [Act.put, List.setIfInBounds_toArray, List.set_cons_zero, List.set_cons_succ]
          rfl
        refine take_ (i := 1) (N := some 32) (v := ?_) (a' := ?_) #[true, true, false, false, false, false, false, false, false, false] rfl rfl (take_of HT_.out (by kernel_rfl)) (fun _ _ _ h => h) (Or.inl ⟨by rfl, ?_⟩) hHeld ?_ ?_
        rotate_left
        · intro w' hw'
          skip
          go_simp
          with_reducible rfl
        rotate_left
        · simp only [Act.put, List.setIfInBounds_toArray, List.set_cons_zero, List.set_cons_succ]
          rfl
        refine pure_ (i := 2) (N := some 33) (v := ?_) (a' := ?_) #[true, true, true, false, false, false, false, false, false, false] rfl rfl (any_of HT_.out (by kernel_rfl)) (fun _ _ _ h => h) (Or.inl ⟨by rfl, ?_⟩) ?_ ?_
        rotate_left
        · intro w'
          go_simp
          with_reducible rfl
        rotate_left
        · simp only [Act.put, List.setIfInBounds_toArray, List.set_cons_zero, List.set_cons_succ]
          rfl
        refine pure_ (i := 3) (N := some 34) (v := ?_) (a' := ?_) #[true, true, true, true, false, false, false, false, false, false] rfl rfl (any_of HT_.out (by kernel_rfl)) (fun _ _ _ h => h) (Or.inl ⟨by rfl, ?_⟩) ?_ ?_
        rotate_left
        · intro w'
          go_simp
          with_reducible rfl
        rotate_left
        · simp only [Act.put, List.setIfInBounds_toArray, List.set_cons_zero, List.set_cons_succ]
          rfl
        refine one_ (i := 4) (N := some 35) #[true, true, true, true, true, false, false, false, false, false] rfl rfl (one_of HT_.out (by kernel_rfl)) (by decide) (fun Kq_ hK_ => ?_)
        refine goesD (.tmp 34) #[.pointer (some ⟨p5, 0, none⟩), .pointer (some ⟨p6, 0, none⟩)] #[] Try.func28 (by kernel_rfl) rfl #[.pointer (some ⟨p5, 0, none⟩), .pointer (some ⟨p6, 0, none⟩)] (by rfl) rfl rfl rfl (by (try simp only [List.map_toArray, List.map_cons, List.map_nil]); first | done | rfl) rfl ?_
        with_reducible refine (flag_any p1 p2 p5 p6 b m8 e8 odd w _ HD.out.fl HY.out HMM.out).mono ?_
        rintro e w4 ⟨rfl, hf, hk⟩
        refine ⟨_, rfl, ?_⟩
        replace HD := Aside0.mk (HD.out.step hf hk)
        clear hf hk
        refine hK_.out _ _ (blk_cell HD.out.fd 2) (fun hHeld => ?_)
        clear hK_ Kq_
        refine norm_ (a' := ?_) ?_ ?_
        rotate_left
        · show Act.put _ (some 35) _ = _
          simp only [Act.put, List.setIfInBounds_toArray, List.set_cons_zero, List.set_cons_succ]
          rfl
        refine pure_ (i := 5) (N := some 36) (v := ?_) (a' := ?_) #[true, true, true, true, true, true, false, false, false, false] rfl rfl (any_of HT_.out (by kernel_rfl)) (fun _ _ _ h => h) (Or.inl ⟨by rfl, ?_⟩) ?_ ?_
        rotate_left
        · intro w'
          go_simp
          with_reducible rfl
        rotate_left
        · simp only [Act.put, List.setIfInBounds_toArray, List.set_cons_zero, List.set_cons_succ]
          rfl
        refine one_ (i := 6) (N := some 37) #[true, true, true, true, true, true, true, false, false, false] rfl rfl (one_of HT_.out (by kernel_rfl)) (by decide) (fun Kq_ hK_ => ?_)
        refine newcellsD_ (.cells #[.int .u64 x8, .bool (flV b m8 e8)] 35) (fun k => .slice (some ⟨k, 0, none⟩) 1 1) (by rfl) rfl ?hr ?_
        (case hr => first | (go_simp; done) | (go_simp; rfl))
        intro kx w6 hk_ hnew hb
        replace HD := Aside0.mk (HD.out.below hb)
        have HC1 := Aside0.mk (C_oneD hnew)
        clear hk_ hnew hb
        refine hK_.out _ _ (blk_cell HD.out.fd 2) (fun hHeld => ?_)
        clear hK_ Kq_
        refine norm_ (a' := ?_) ?_ ?_
        rotate_left
        · show Act.put _ (some 37) _ = _
          simp only [Act.put, List.setIfInBounds_toArray, List.set_cons_zero, List.set_cons_succ]
          rfl
        refine one_ (i := 7) (N := some 38) #[true, true, true, true, true, true, true, true, false, false] rfl rfl (one_of HT_.out (by kernel_rfl)) (by decide) (fun Kq_ hK_ => ?_)
        refine Kd.R_append_rows_step Lk (w0 := w) w.heap.size (by rfl) (.tmp 32) (.tmp 37) 23 35 (.agg #[.int .u64 0, .bool false]) 16 rfl Try.underlying23 infoLk rfl Nat.two_pos (by omega) (.slice A8 L.length c8) L [(x8, flV b m8 e8)] (some ⟨kx, 0, none⟩) 1 1 (fun _ => True) (fun _ => False) rfl rfl HD.out.lk HC1.out (fun _ _ hh => hh) (fun _ hk => hk.elim) (fun _ _ => trivial) HD.out.fl.tk.bel HD.out.fl.tk.bel.size (by have := HLN.out; omega) ?_
        intro v7 w7 ho hb hg hat
        obtain ⟨A9, c9, rfl⟩ := Kd.R_slice ho
        obtain ⟨n9, hn9⟩ : ∃ n9, n9 = (L ++ [(x8, flV b m8 e8)]).length := ⟨_, rfl⟩
        rw [← hn9] at ho ⊢
        clear hn9
        have hgr := HD.out.grown hg hb ho
        have HG8 := Aside0.mk hgr.2
        replace HD := Aside0.mk hgr.1
        have y9 := blk_cell HG8.out 2
        have z9 : w7.frozen? ⟨p8, 2, none⟩ = false := blk_frozen HG8.out 2
        clear ho hb hg hat hgr
        refine hK_.out _ _ (blk_cell HG8.out 2) (fun hHeld => ?_)
        clear hK_ Kq_
        refine norm_ (a' := ?_) ?_ ?_
        rotate_left
        · show Act.put _ (some 38) _ = _
          simp only [Act.put, List.setIfInBounds_toArray, List.set_cons_zero, List.set_cons_succ]
          rfl
        refine pure_ (i := 8) (N := some 39) (v := ?_) (a' := ?_) #[true, true, true, true, true, true, true, true, true, false] rfl rfl (any_of HT_.out (by kernel_rfl)) (fun _ _ _ h => h) (Or.inl ⟨by rfl, ?_⟩) ?_ ?_
        rotate_left
        · intro w'
          go_simp
          with_reducible rfl
        rotate_left
        · simp only [Act.put, List.setIfInBounds_toArray, List.set_cons_zero, List.set_cons_succ]
          rfl
        refine last_ (i := 9) (N := none) #[true, true, true, true, true, true, true, true, true, true] rfl rfl (one_of HT_.out (by kernel_rfl)) (by decide) (fun Kq_ hK_ => ?_)
        refine skip_ (w1 := ?_) (by rfl) rfl ?_ ?_
        rotate_left
        · go_simp
          first | done | rfl
        refine hK_.out _ _ ?_
        clear hK_ Kq_
        refine done_ (done_of HT_.out (by kernel_rfl)) ?_
        clear HT_ hHeld y9 z9
        obtain ⟨W9, hW9⟩ : ∃ W9, W9 = w7.setCell ⟨p8, 2, none⟩ (.slice A9 n9 c9) := ⟨_, rfl⟩
        rw [← hW9] at HD ⊢
        clear hW9
        go_wp2
        go_roundg (gk - 1)
        case measure => have := HQ.out.2.2.2.2.2.2.2.2; have := HLT.out; omega
        case rel =>
          obtain ⟨q1, q2, q3, q4, q5, q6, q7, q8, q9⟩ := HQ.out
          obtain ⟨g1, g2, g3⟩ := H8.out
          have hlt := HLT.out
          subst q3
          refine ⟨n - 1, _, _, _, _, _, _, _, rfl, HD, ⟨tkM_le _ _ _ _ HMM.out⟩, ⟨?_⟩⟩
          by_cases h20 : b.length < 20 + 9 * j
          · refine .inl ⟨?_, decP_round (by omega) hlt h20, by omega⟩
            rw [g2, g3]
            exact round_no h20
          · obtain ⟨⟨a1, a2, a3⟩, b1, b2, b3, b4⟩ := round_yes (b := b) (j := j) (by omega)
            rw [a1] at g2
            rw [a2] at g3
            rw [a3] at g1
            subst g1 g2 g3
            refine .inr ⟨j + 1, b2, by omega, by omega, b1, ?_, q5, q6, ?_, by omega, by omega⟩
            · rw [b4, oddJ_step, q4]
            · rw [map_step, q7, b3]; rfl
      · have hj : j = kP b := by omega
        have hn0 : ¬ n > 0 := by omega
        clear hn hjk hlt
        cases odd with
        | true =>
          have HE := Aside0.mk (show decP b = ((0, false, []), 3) by obtain ⟨q1, q2, q3, q4, q5, q6, q7, q8, q9⟩ := HQ.out; rw [decP_end (by omega), if_pos (Or.inl (by rw [← hj]; exact q4.symm))])
          clear hj
          go_wp2_with (fail)
          obtain ⟨W3, hW3⟩ : ∃ W3, W3 = wr.setCell ⟨p2, 0, none⟩ (.int .i64 3) := ⟨_, rfl⟩
          rw [← hW3]
          replace HD := Aside0.mk (show DeAt w W3 p1 p2 p5 p6 pr p8 b m 3 true fm fo (.slice A8 L.length c8) L by rw [hW3]; exact HD.out.setE 3)
          clear hW3 d1 d2 d3 d4 d5 d6 d7 d8 d9 d10 d11
          have HB := Aside0.mk (Below.refl W3.heap.size W3)
          obtain ⟨⟨r0, r1, r2⟩, zr0, zr1, zr2⟩ := HD.out.zero
          refine start_ (n := 4) (S := fun w' => w'.cell? ⟨p2, 0, none⟩ = some (.int .i64 3)) (ds := []) #[false, false, false, false] (by kernel_rfl) rfl rfl (pw_cell_below (below_drew (Below.refl _ _)) (blk_cell HD.out.fl.tk.er 0)) (fun hHeld => ?_); refine with_tab tabDe16_ok (fun HT_ => ?_)
          have hb : Below W3.heap.size W3 W3.drew := below_drew (Below.refl _ _)
          replace HB := Aside0.mk (HB.out.trans (hb.mono HB.out.size))
          clear hb
          refine pure_ (i := 0) (N := some 52) (v := ?_) (a' := ?_) #[true, false, false, false] rfl rfl (any_of HT_.out (by kernel_rfl)) (fun _ _ _ h => h) (Or.inl ⟨by rfl, ?_⟩) ?_ ?_
          rotate_left
          · intro w'
            go_simp
            with_reducible rfl
          rotate_left
          · simp only [Act.put, List.setIfInBounds_toArray, List.set_cons_zero, List.set_cons_succ]
            rfl
          refine take_ (i := 1) (N := some 53) (v := ?_) (a' := ?_) #[true, true, false, false] rfl rfl (take_of HT_.out (by kernel_rfl)) (fun _ _ _ h => h) (Or.inl ⟨by rfl, ?_⟩) hHeld ?_ ?_
          rotate_left
          · intro w' hw'
            skip
            go_simp
            with_reducible rfl
          rotate_left
          · simp only [Act.put, List.setIfInBounds_toArray, List.set_cons_zero, List.set_cons_succ]
            rfl
          refine one_ (i := 2) (N := none) #[true, true, true, false] rfl rfl (one_of HT_.out (by kernel_rfl)) (by decide) (fun Kq_ hK_ => ?_)
          refine skip_ (w1 := ?_) (by rfl) rfl ?_ ?_
          rotate_left
          · go_simp
            first | done | rfl
          refine hK_.out _ _ (blk_cell (show (((W3.setCell ⟨pr, 0, none⟩ (.int .u64 0)).setCell ⟨pr, 1, none⟩ (.bool false)).setCell ⟨pr, 2, none⟩ (.slice none 0 0)).drew.heap[p2]? = _ from (found_far 0 false (.slice none 0 0) nr2).trans HD.out.fl.tk.er) 0) (fun hHeld => ?_)
          clear hK_ Kq_
          refine pure_ (i := 3) (N := some 3) (v := ?_) (a' := ?_) #[true, true, true, true] rfl rfl (any_of HT_.out (by kernel_rfl)) (fun _ _ _ h => h) (Or.inl ⟨by rfl, ?_⟩) ?_ ?_
          rotate_left
          · intro w'
            go_simp
            with_reducible rfl
          rotate_left
          · simp only [Act.put, List.setIfInBounds_toArray, List.set_cons_zero, List.set_cons_succ]
            rfl
          refine done_ (done_of HT_.out (by kernel_rfl)) ?_
          clear HT_ hHeld r0 r1 r2 zr0 zr1 zr2
          obtain ⟨WZ, hWZ⟩ : ∃ WZ, WZ = (((W3.setCell ⟨pr, 0, none⟩ (.int .u64 0)).setCell ⟨pr, 1, none⟩ (.bool false)).setCell ⟨pr, 2, none⟩ (.slice none 0 0)).drew := ⟨_, rfl⟩
          rw [← hWZ]
          have hz : WZ.heap[pr]? = some (foundObj 0 false (.slice none 0 0)) := by rw [hWZ]; exact found_put HD.out.res 0 false _
          have hbz : Below w.heap.size w WZ := by rw [hWZ]; exact below_drew (found_below HD.out.fl.tk.bel HD.out.far.1 0 false _)
          obtain ⟨t0, t1, t2⟩ := found_cells hz
          clear hWZ hz
          go_wp2
          refine bodyPost_ret (v := .tuple #[.agg #[.int .u64 0, .bool false, .slice none 0 0], .int .i64 3]) (by simp [results, Try.results17, go_sem, t0, t1, t2]) rfl ?_
          rw [HE.out]
          exact ⟨⟨_, rfl, Kd.R_nil _ _ _ _ _⟩, hbz⟩
        | false =>
          obtain ⟨l1, hl1e⟩ : ∃ l, l = b.length - m := ⟨_, rfl⟩
          rw [← hl1e] at d1
          have HL1 := Aside0.mk hl1e
          clear hl1e
          by_cases hl1 : 0 < l1
          · have hl2 : (l1 : Int) > 0 := by omega
            have HE := Aside0.mk (show decP b = ((0, false, []), 3) by obtain ⟨q1, q2, q3, q4, q5, q6, q7, q8, q9⟩ := HQ.out; rw [decP_end (by omega), if_pos (Or.inr (by have := HL1.out; omega))])
            clear hj
            go_wp2_with (fail)
            obtain ⟨W3, hW3⟩ : ∃ W3, W3 = wr.setCell ⟨p2, 0, none⟩ (.int .i64 3) := ⟨_, rfl⟩
            rw [← hW3]
            replace HD := Aside0.mk (show DeAt w W3 p1 p2 p5 p6 pr p8 b m 3 false fm fo (.slice A8 L.length c8) L by rw [hW3]; exact HD.out.setE 3)
            clear hW3 d1 d2 d3 d4 d5 d6 d7 d8 d9 d10 d11
            have HB := Aside0.mk (Below.refl W3.heap.size W3)
            obtain ⟨⟨r0, r1, r2⟩, zr0, zr1, zr2⟩ := HD.out.zero
            refine start_ (n := 4) (S := fun w' => w'.cell? ⟨p2, 0, none⟩ = some (.int .i64 3)) (ds := []) #[false, false, false, false] (by kernel_rfl) rfl rfl (pw_cell_below (below_drew (Below.refl _ _)) (blk_cell HD.out.fl.tk.er 0)) (fun hHeld => ?_); refine with_tab tabDe16_ok (fun HT_ => ?_)
            have hb : Below W3.heap.size W3 W3.drew := below_drew (Below.refl _ _)
            replace HB := Aside0.mk (HB.out.trans (hb.mono HB.out.size))
            clear hb
            refine pure_ (i := 0) (N := some 52) (v := ?_) (a' := ?_) #[true, false, false, false] rfl rfl (any_of HT_.out (by kernel_rfl)) (fun _ _ _ h => h) (Or.inl ⟨by rfl, ?_⟩) ?_ ?_
            rotate_left
            · intro w'
              go_simp
              with_reducible rfl
            rotate_left
            · simp only [Act.put, List.setIfInBounds_toArray, List.set_cons_zero, List.set_cons_succ]
              rfl
            refine take_ (i := 1) (N := some 53) (v := ?_) (a' := ?_) #[true, true, false, false] rfl rfl (take_of HT_.out (by kernel_rfl)) (fun _ _ _ h => h) (Or.inl ⟨by rfl, ?_⟩) hHeld ?_ ?_
            rotate_left
            · intro w' hw'
              skip
              go_simp
              with_reducible rfl
            rotate_left
            · simp only [Act.put, List.setIfInBounds_toArray, List.set_cons_zero, List.set_cons_succ]
              rfl
            refine one_ (i := 2) (N := none) #[true, true, true, false] rfl rfl (one_of HT_.out (by kernel_rfl)) (by decide) (fun Kq_ hK_ => ?_)
            refine skip_ (w1 := ?_) (by rfl) rfl ?_ ?_
            rotate_left
            · go_simp
              first | done | rfl
            refine hK_.out _ _ (blk_cell (show (((W3.setCell ⟨pr, 0, none⟩ (.int .u64 0)).setCell ⟨pr, 1, none⟩ (.bool false)).setCell ⟨pr, 2, none⟩ (.slice none 0 0)).drew.heap[p2]? = _ from (found_far 0 false (.slice none 0 0) nr2).trans HD.out.fl.tk.er) 0) (fun hHeld => ?_)
            clear hK_ Kq_
            refine pure_ (i := 3) (N := some 3) (v := ?_) (a' := ?_) #[true, true, true, true] rfl rfl (any_of HT_.out (by kernel_rfl)) (fun _ _ _ h => h) (Or.inl ⟨by rfl, ?_⟩) ?_ ?_
            rotate_left
            · intro w'
              go_simp
              with_reducible rfl
            rotate_left
            · simp only [Act.put, List.setIfInBounds_toArray, List.set_cons_zero, List.set_cons_succ]
              rfl
            refine done_ (done_of HT_.out (by kernel_rfl)) ?_
            clear HT_ hHeld r0 r1 r2 zr0 zr1 zr2
            obtain ⟨WZ, hWZ⟩ : ∃ WZ, WZ = (((W3.setCell ⟨pr, 0, none⟩ (.int .u64 0)).setCell ⟨pr, 1, none⟩ (.bool false)).setCell ⟨pr, 2, none⟩ (.slice none 0 0)).drew := ⟨_, rfl⟩
            rw [← hWZ]
            have hz : WZ.heap[pr]? = some (foundObj 0 false (.slice none 0 0)) := by rw [hWZ]; exact found_put HD.out.res 0 false _
            have hbz : Below w.heap.size w WZ := by rw [hWZ]; exact below_drew (found_below HD.out.fl.tk.bel HD.out.far.1 0 false _)
            obtain ⟨t0, t1, t2⟩ := found_cells hz
            clear hWZ hz
            go_wp2
            refine bodyPost_ret (v := .tuple #[.agg #[.int .u64 0, .bool false, .slice none 0 0], .int .i64 3]) (by simp [results, Try.results17, go_sem, t0, t1, t2]) rfl ?_
            rw [HE.out]
            exact ⟨⟨_, rfl, Kd.R_nil _ _ _ _ _⟩, hbz⟩
          · have hl2 : ¬ (l1 : Int) > 0 := by omega
            have HE := Aside0.mk (show decP b = ((fm, fo, L), 0) by obtain ⟨q1, q2, q3, q4, q5, q6, q7, q8, q9⟩ := HQ.out; rw [decP_end (by omega), if_neg (fun h => h.elim (fun h => absurd h (by rw [← hj, ← q4]; decide)) (fun h => by have := HL1.out; omega)), q5, q6, q7, hj])
            clear hj
            obtain ⟨⟨r0, r1, r2⟩, zr0, zr1, zr2⟩ := HD.out.zero
            go_wp2
            obtain ⟨WZ, hWZ⟩ : ∃ WZ, WZ = (((wr.setCell ⟨pr, 0, none⟩ (.int .u64 fm)).setCell ⟨pr, 1, none⟩ (.bool fo)).setCell ⟨pr, 2, none⟩ (.slice A8 L.length c8)) := ⟨_, rfl⟩
            rw [← hWZ]
            have hz : WZ.heap[pr]? = some (foundObj fm fo (.slice A8 L.length c8)) := by rw [hWZ]; exact found_put HD.out.res fm fo _
            have hbz : Below w.heap.size w WZ := by rw [hWZ]; exact found_below HD.out.fl.tk.bel HD.out.far.1 fm fo _
            have hlz : Kd.R Lk 35 WZ w.heap.size (fun _ => True) (.slice A8 L.length c8) L := by rw [hWZ]; exact R_kp3 HD.out.lk HD.out.res (by decide) HD.out.res (by decide) HD.out.res (by decide) (found_kp fm fo _)
            obtain ⟨t0, t1, t2⟩ := found_cells hz
            clear hWZ hz r0 r1 r2 zr0 zr1 zr2 d1 d2 d3 d4 d5 d6 d7 d8 d9 d10 d11
            refine bodyPost_ret (v := .tuple #[.agg #[.int .u64 fm, .bool fo, .slice A8 L.length c8], .int .i64 0]) (by simp [results, Try.results17, go_sem, t0, t1, t2]) rfl ?_
            rw [HE.out]
            exact ⟨⟨_, rfl, hlz⟩, hbz⟩
end Go.Proofs.Ytoojmbifkjocfaa.Proof
