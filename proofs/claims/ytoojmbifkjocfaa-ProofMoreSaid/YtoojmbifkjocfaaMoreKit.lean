/- What the proof of ProofMore leans on. Conditions stand in each statement. -/
import Derived.Test.YtoojmbifkjocfaaProofUse
import Derived.Test.YtoojmbifkjocfaaMorePlain
namespace Go.Proofs.Ytoojmbifkjocfaa.Proof
open Go.RowKit Go.Proofs.YtoojmbifkjocfaaW.PrintWords Go.Proofs.YtoojmbifkjocfaaW.PrintLast Go.Proofs.YtoojmbifkjocfaaW.PrintMore Go.Proofs.Ytoojmbifkjocfaa.Kit Go.Proofs.Ytoojmbifkjocfaa.Plain
set_option linter.unusedVariables false
set_option linter.unusedSimpArgs false
def tabM12 : Bool × List (List Nat × List Nat) := (true, [([], []), ([0], [0]), ([], []), ([2], [2]), ([], []), ([], []), ([5], [5]), ([4, 6], [4, 6]), ([], []), ([], []), ([8, 9], [8, 9]), ([10], [10]), ([7, 11, 7], [7, 11]), ([1, 3, 12], [1, 3, 12]), ([], []), ([14, 13, 12, 0, 1, 2, 3, 4, 5, 6, 7, 8, 9, 10, 11, 12, 13, 14], [13, 14])])
theorem tabM12_ok : rtab .any (opsOf Try.f4 12) = tabM12 := by kernel_rfl
def tabM13 : Bool × List (List Nat × List Nat) := (true, [([], []), ([0], [0]), ([], []), ([2], [2]), ([], []), ([], []), ([5], [5]), ([4, 6], [4, 6]), ([], []), ([], []), ([9], [9]), ([8, 10], [8, 10]), ([11], [11]), ([7, 12, 7], [7, 12]), ([1, 3, 13], [1, 3, 13]), ([], []), ([15, 14, 13, 0, 1, 2, 3, 4, 5, 6, 7, 8, 9, 10, 11, 12, 13, 14, 15], [14, 15])])
theorem tabM13_ok : rtab .any (opsOf Try.f4 13) = tabM13 := by kernel_rfl
abbrev t : Bool := true
abbrev f : Bool := false
/-- New cells, in a region that draws its order. -/
theorem newcells_ {P : Program} {ops : Array Oper} {Q : Exit → Act → World → Prop} {oi : Oper} {N : Option Tmp} {a : Act} {W : World} {K : Act → World → Prop} (obj : Obj) (val : Nat → Value) (hw : Region.wanted oi (yielded ops a.tmps) = true) (hN : oi.dst = N)
    (hrun : (execOp a.eval oi).run P W = .ok (.value (val W.heap.size)) (W.alloc obj))
    (h : ∀ k W', k = W.heap.size → W'.heap[k]? = some obj → Below W.heap.size W W' → K (a.put N (val k)) W') : if Region.wanted oi (yielded ops a.tmps) = true then Oper.wp P oi a W K Q else K (a.put N undef) W :=
  value_ hw hN hrun (h _ _ rfl (blk_new W obj) (below_alloc (Below.refl _ _) _))
theorem own_ne {W : World} {base : Nat} {ok : Nat → Prop} {v : Value} {xs : List (Int × Bool)} {kg : Nat} {m : Int} {o : Bool} {u : Value} (h : Kd.R Lk 35 W base ok v xs) (hG : W.heap[kg]? = some (foundObj m o u)) (he : some kg = v.ownBlock) : False := by
  obtain ⟨_, _, _, q, hq, cells, hc⟩ := (Kd.R_bound h).1 kg he.symm
  rw [hG] at hc
  have hq' : q = 35 := by simpa [Lk, flat] using hq
  subst hq'
  simp [foundObj] at hc
theorem R_not_found {W : World} {base : Nat} {ok : Nat → Prop} {v : Value} {xs : List (Int × Bool)} {kg : Nat} {m : Int} {o : Bool} {u : Value} (h : Kd.R Lk 35 W base ok v xs) (hG : W.heap[kg]? = some (foundObj m o u)) : Kd.R Lk 35 W base (fun k => k ≠ kg) v xs := by
  refine Kd.R_mono (Kd.R_bound h) (fun k hk => ?_)
  obtain ⟨_, _, _, q, hq, cells, hc⟩ := hk
  rintro rfl
  rw [hG] at hc
  have hq' : q = 35 := by simpa [Lk, flat] using hq
  subst hq'
  simp [foundObj] at hc
theorem C_oneLk {W : World} {k : Nat} {x : Int} {b : Bool} (h : W.heap[k]? = some (.cells #[.int .u64 x, .bool b] 35 (0, 0))) : Kd.C Lk W (some ⟨k, 0, none⟩) 1 [(x, b)] := by
  refine ⟨rfl, by decide, fun _ => ⟨_, rfl, fun j p hj => ⟨lkEnc p, rfl, rfl, fun i u hu => ?_⟩⟩⟩
  rcases j with _ | j
  · simp at hj
    subst hj
    show W.cell? (Addr.add ⟨k, 0, none⟩ (0 * 2 + i)) = _
    rw [add_plain, blk_cell h]
    rcases i with _ | _ | i
    · simpa [lkEnc] using hu
    · simpa [lkEnc] using hu
    · simp [lkEnc] at hu
  · simp at hj
theorem wf_snoc {L : List (Int × Bool)} {x : Int} {b : Bool} (h : ∀ p ∈ L, (Lit.int .u64 p.1).wf = true) (hx : (Lit.int .u64 x).wf = true) : ∀ p ∈ L ++ [(x, b)], (Lit.int .u64 p.1).wf = true := fun p hp => by
  rcases mem_snoc hp with hp | rfl
  · exact h p hp
  · exact hx
end Go.Proofs.Ytoojmbifkjocfaa.Proof
