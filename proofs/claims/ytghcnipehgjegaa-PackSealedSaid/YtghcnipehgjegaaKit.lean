/- Words of this session's own that all walks of this seat use: small lemmas over the print's words. No conditions. -/
import Derived.Test.YtghcnipehgjegaaProg
import Derived.Below
import Derived.Deep.Draws
import Derived.Deep.AppendLies
import Derived.Maps.AppendAt
import Derived.OwnWalk
import Derived.Laws.BytesArg
import Derived.Laws.MakeOwn
import Derived.Laws.OwnMore
import Derived.Deep.OwnRows
import Derived.Tactics
import Derived.Lib.ConvBytes
import Derived.Laws.Slices
import Derived.WalkKit
import Derived.KernelRfl
import Derived.RowKit3
import Derived.Deep.LoopGhost
import Derived.Deep.QuietTactic
import Derived.BigQuiet
import Derived.WideLaws
import Derived.Deep.DeepCutAuto
import Derived.Deep.CutBlock
import Derived.Deep.RegionHeld3
import Derived.Laws.Rows
import Derived.Lib.AppendStr
import Derived.ArgAppend
import Derived.Laws.IdiomCopy
import Derived.OrdersHeld
import Derived.Laws.BitsLemmas
import Derived.Laws.Bits64
import Derived.RowKit
import Derived.Test.YtghcnipehgjegaaWWords
import Derived.Test.YtghcnipehgjegaaWLast
import Derived.Test.YtghcnipehgjegaaWTab
import Derived.Test.YtghcnipehgjegaaWFour
import Derived.Test.YtghcnipehgjegaaWQPut
import Derived.Test.YtghcnipehgjegaaWApart
import Derived.Test.YtghcnipehgjegaaWArr
import Derived.Test.YtghcnipehgjegaaWZeros
import Derived.Test.YtghcnipehgjegaaWFoot
import Derived.Test.YtghcnipehgjegaaWKept
import Derived.Test.YtghcnipehgjegaaWShare
import Derived.Test.YtghcnipehgjegaaWN
import Derived.Test.YtghcnipehgjegaaWFootNe
import Derived.Test.YtghcnipehgjegaaWAt
import Derived.Test.YtghcnipehgjegaaWEqStruct
import Derived.Test.YtghcnipehgjegaaWRepsOne
import Derived.Test.YtghcnipehgjegaaWGuard
import Derived.Test.YtghcnipehgjegaaWMore
import Derived.Test.YtghcnipehgjegaaPlain
namespace Go.Proofs.Ytghcnipehgjegaa.Kit
open Go.Proofs.Ytghcnipehgjegaa.Plain Go.RowKit Go.Proofs.YtghcnipehgjegaaW.PrintWords Go.Proofs.YtghcnipehgjegaaW.PrintLast Go.Proofs.YtghcnipehgjegaaW.PrintMore
set_option linter.unusedVariables false
set_option linter.unusedSimpArgs false

theorem R_at {k : IntKind} {e base g n cap : Nat} {ok : Nat → Prop} {W : World} {xs : List Int} (h : Kd.R (Kd.int k) e W base ok (.slice (some ⟨g, 0, none⟩) n cap) xs) (i : Nat) (hi : i < n) :
    W.cell? ⟨g, i, none⟩ = some (.int k (nth xs i)) ∧ W.frozen? ⟨g, i, none⟩ = false := Kd.R_celln 0 h (i : Int) (by omega) (by omega)
theorem R_put' {k : IntKind} {e base g n cap : Nat} {ok : Nat → Prop} {W : World} {xs : List Int} (h : Kd.R (Kd.int k) e W base ok (.slice (some ⟨g, 0, none⟩) n cap) xs) (i : Nat) (x : Int) :
    Kd.R (Kd.int k) e (W.setCell ⟨g, i, none⟩ (.int k x)) base ok (.slice (some ⟨g, 0, none⟩) n cap) (xs.set i x) := (Kd.R_putg h (i : Int) x).1
/-- An element of a slice that is read. -/
theorem C_at {k : IntKind} {w : World} {A : Option Addr} {n : Nat} {xs : List Int} (h : Kd.C (Kd.int k) w A n xs) (i : Nat) (hi : i < n) :
    ∃ ad, A = some ad ∧ w.cell? (ad.add i) = some (.int k (nth xs i)) := by
  obtain ⟨ad, e, hc⟩ := Kd.at_int h (i : Int) (by omega) (by omega)
  exact ⟨ad, e, hc⟩
theorem C_len {α : Type} {d : Kd α} {w : World} {A : Option Addr} {n : Nat} {xs : List α} (h : Kd.C d w A n xs) : xs.length = n := h.1
theorem C_max {α : Type} {d : Kd α} {w : World} {A : Option Addr} {n : Nat} {xs : List α} (h : Kd.C d w A n xs) : n ≤ 9223372036854775807 := h.2.1
/-! Literals and appends of bytes, as steps of a walk. -/
section
variable {P : Program} {ops : Array Oper} {rest : List Oper} {o : Oper} {a : Act} {Q : Exit → Act → World → Prop}
theorem reps_int (k : IntKind) {w : World} {base : Nat} {ok : Nat → Prop} : ∀ xs : List Int, Reps ((Kd.int k).M w base ok) 1 xs (xs.map (Value.int k)) := fun xs => by
  refine ⟨by simp, fun j x hj => ?_⟩
  have e : ((xs.map (Value.int k)).drop (j * 1)).take 1 = [.int k x] := by
    have hl : j < xs.length := (List.getElem?_eq_some_iff.1 hj).1
    have hx : xs[j] = x := (List.getElem?_eq_some_iff.1 hj).2
    rw [Nat.mul_one, List.take_one, List.head?_drop]
    simp [hj]
  exact e
/-- A literal of any elements, for reading. -/
theorem litC {α : Type} (d : Kd α) {w0 W : World} (base e : Nat) (hgd : o.guard = none) (xs : List α) (inner : List Value)
    (hrun : (execOp a.eval o).run P W = .ok (.value (.slice (some ⟨W.heap.size, 0, none⟩) xs.length xs.length)) (W.alloc (.cells inner.toArray e)))
    (hrep : Reps (d.K W) d.sz xs inner)
    (HB : Below base w0 W) (hbase : base ≤ W.heap.size) (hm : xs.length ≤ 9223372036854775807)
    (h : ∀ w1, Below base w0 w1 → Below W.heap.size W w1 → d.C w1 (some ⟨W.heap.size, 0, none⟩) xs.length xs → wpList P ops Q rest (a.put o.dst (.slice (some ⟨W.heap.size, 0, none⟩) xs.length xs.length)) w1) : wpList P ops Q (o :: rest) a W := by
  obtain ⟨hl, hK⟩ := hrep
  have hb : Below W.heap.size W (W.alloc (.cells inner.toArray e)) := below_alloc (Below.refl _ _) _
  refine Kd.event_run hgd hrun (h _ (HB.alloc hbase _) hb ⟨rfl, hm, fun _ => ⟨_, rfl, fun j p hj => ⟨_, ?_, d.K_below hb (hK j p hj), fun i u hu => ?_⟩⟩⟩)
  · exact d.K_len (hK j p hj)
  · have hh : (W.alloc (.cells inner.toArray e)).heap[W.heap.size]? = some (.cells inner.toArray e (0, 0)) := blk_new W _
    rw [add_plain, blk_cell hh]
    have hlt : i < ((inner.drop (j * d.sz)).take d.sz).length := (List.getElem?_eq_some_iff.1 hu).1
    rw [List.getElem?_take_of_lt (by rw [List.length_take] at hlt; omega), List.getElem?_drop] at hu
    simpa using hu
end
/-- A store into another block. -/
theorem R_set_far {α : Type} {d : Kd α} {e base g i : Nat} {ok : Nat → Prop} {W : World} {v u : Value} {xs : List α} (h : Kd.R d e W base ok v xs) (hok : ∀ k, ok k → k ≠ g) : Kd.R d e (W.setCell ⟨g, i, none⟩ u) base ok v xs :=
  Kd.R_move h (fun k hk => Below.heap_setCell W ⟨g, i, none⟩ u k (hok k hk))
theorem wf_u64 {a : Int} (h : (Lit.int .u64 a).wf = true) : 0 ≤ a ∧ a < 2 ^ 64 := by
  simp only [Lit.wf, IntKind.min, IntKind.max, IntKind.signed, IntKind.bits, Bool.and_eq_true, decide_eq_true_eq] at h
  obtain ⟨h1, h2⟩ := h
  simp at h1 h2
  omega
theorem wf_u8 {a : Int} (h : (Lit.int .u8 a).wf = true) : 0 ≤ a ∧ a < 256 := by
  simp only [Lit.wf, IntKind.min, IntKind.max, IntKind.signed, IntKind.bits, Bool.and_eq_true, decide_eq_true_eq] at h
  obtain ⟨h1, h2⟩ := h
  simp at h1 h2
  omega
theorem wf_u16 {a : Int} (h : (Lit.int .u16 a).wf = true) : 0 ≤ a ∧ a < 65536 := by
  simp only [Lit.wf, IntKind.min, IntKind.max, IntKind.signed, IntKind.bits, Bool.and_eq_true, decide_eq_true_eq] at h
  obtain ⟨h1, h2⟩ := h
  simp at h1 h2
  omega
theorem wf_i64 {a : Int} (h : (Lit.int .i64 a).wf = true) : -9223372036854775808 ≤ a ∧ a ≤ 9223372036854775807 := by
  simp only [Lit.wf, IntKind.min, IntKind.max, IntKind.signed, IntKind.bits, Bool.and_eq_true, decide_eq_true_eq] at h
  obtain ⟨h1, h2⟩ := h
  simp at h1 h2
  omega
theorem wf_byt {l : List Int} (h : ∀ x ∈ l, (Lit.int .u8 x).wf = true) : Byt l := fun x hx => wf_u8 (h x hx)
theorem retB {a b : Bool} (h : a = b) : Ending.returned (.bool a) = .returned (.bool b) := by rw [h]
theorem retI {k : IntKind} {a b : Int} (h : a = b) : Ending.returned (.int k a) = .returned (.int k b) := by rw [h]
theorem retIB {k : IntKind} {a b : Int} {p q : Bool} (h : a = b) (h2 : p = q) : Ending.returned (.tuple #[.int k a, .bool p]) = .returned (.tuple #[.int k b, .bool q]) := by rw [h, h2]
theorem drawn_below {w w1 w2 : World} {B : Nat} (h : Below B w w1) (k : Drawn0 w1 w2) : Below B w w2 := by
  obtain ⟨n, rfl⟩ := k.out
  exact pw_below_drewN h n
/-- Elements of several cells, none of which leads on. -/
def flat {α : Type} (sz : Nat) (enc : α → List Value) (hl : ∀ x, (enc x).length = sz) (h1 : ∀ x, ∀ u ∈ enc x, u.oneCell' = true) : Kd α where
  sz := sz
  E := []
  K := fun _ x cs => cs = enc x
  M := fun _ _ _ x cs => cs = enc x
  K_len := fun h => by rw [h]; exact hl _
  K_one := fun h u hu => by rw [h] at hu; exact h1 _ u hu
  K_below := fun _ h => h
  K_of_M := fun h => h
  M_mono := fun _ h => h
  M_bound := fun h => h
  M_move := fun _ h => h
  M_lower := fun _ h => h
theorem C_flat {α : Type} {sz : Nat} {enc : α → List Value} {hl : ∀ x, (enc x).length = sz} {h1 : ∀ x, ∀ u ∈ enc x, u.oneCell' = true} {w : World} {A : Option Addr} {n : Nat} {xs : List α} (h : Kd.C (flat sz enc hl h1) w A n xs) (z : α) (i : Nat) (hi : i < n) :
    ∃ ad, A = some ad ∧ ∀ j u, (enc (xs.getD i z))[j]? = some u → w.cell? (ad.add (i * sz + j)) = some u := by
  obtain ⟨ad, c, e, _, hK, hc⟩ := Kd.C_get h z (i : Int) (by omega) (by omega)
  have hK' : c = enc (xs.getD i z) := hK
  subst hK'
  exact ⟨ad, e, hc⟩
end Go.Proofs.Ytghcnipehgjegaa.Kit
