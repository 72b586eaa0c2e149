/- The kind of a look, and rows of moments, in the seat of layer 53. No conditions. -/
import Derived.Test.YtoojmbifkjocfaaKit
import Derived.Test.YtoojmbifkjocfaaOpen
import Derived.IntWalk
import Derived.Outline
import Derived.Deep.DeepMust
namespace Go.Proofs.Ytoojmbifkjocfaa.Kit
open Go.RowKit Go.Proofs.YtoojmbifkjocfaaW.PrintWords Go.Proofs.YtoojmbifkjocfaaW.PrintLast Go.Proofs.YtoojmbifkjocfaaW.PrintMore Go.Proofs.Ytoojmbifkjocfaa.Plain
set_option linter.unusedVariables false
set_option linter.unusedSimpArgs false
/-- A slice of moments that is read. -/
abbrev RdM (w : World) (A : Option Addr) (n : Nat) (l : List Int) : Prop := Kd.C (Kd.int .u64) w A n l
def lkEnc (x : Int × Bool) : List Value := [.int .u64 x.1, .bool x.2]
abbrev Lk : Kd (Int × Bool) := flat 2 lkEnc (fun _ => rfl) (fun x u hu => by simp only [lkEnc, List.mem_cons, List.not_mem_nil, or_false] at hu; rcases hu with rfl | rfl <;> rfl)
theorem infoLk : (Try.prog.info? 35).map (fun i => (i.zero, i.size, i.bytes)) = some (some (.agg #[.int .u64 0, .bool false]), 2, 16) := by kernel_rfl
def foundObj (a : Int) (o : Bool) (v : Value) : Obj := .cells #[.int .u64 a, .bool o, v] 25 (0, 0)
theorem C_at' {W : World} {ad : Addr} {n : Nat} {l : List Int} (h : RdM W (some ad) n l) (i : Nat) (hi : i < n) : W.cell? (ad.add i) = some (.int .u64 (nth l i)) := by
  obtain ⟨ad', he, hc⟩ := C_at h i hi
  injection he with he
  subst he
  exact hc
theorem C_at0 {W : World} {ad : Addr} {n : Nat} {l : List Int} (h : RdM W (some ad) n l) (hi : 0 < n) : W.cell? ad = some (.int .u64 (nth l 0)) := by
  exact C_at' h 0 hi
theorem u64_wf {a : Int} (h0 : 0 ≤ a) (h1 : a < 2 ^ 64) : (Lit.int .u64 a).wf = true := by
  simp only [Lit.wf, IntKind.min, IntKind.max, IntKind.signed, IntKind.bits, Bool.and_eq_true, decide_eq_true_eq]
  simp
  omega
theorem add_next (a : Addr) (j : Nat) : a.add (j + 1) = ⟨(a.add j).block, (a.add j).off + 1, none⟩ := by
  unfold Addr.add
  split <;> split <;> simp_all <;> omega
theorem add_in (a : Addr) (j : Nat) : a.add (j + 1) = ⟨a.block, a.off + (j + 1), none⟩ := by
  unfold Addr.add
  split <;> simp_all
theorem found_cells {W : World} {g : Nat} {a : Int} {o : Bool} {v : Value} (h : W.heap[g]? = some (foundObj a o v)) : W.cell? ⟨g, 0, none⟩ = some (.int .u64 a) ∧ W.cell? ⟨g, 1, none⟩ = some (.bool o) ∧ W.cell? ⟨g, 2, none⟩ = some v := ⟨blk_cell h 0, blk_cell h 1, blk_cell h 2⟩
theorem cutLk (A : Option Addr) (n c j : Nat) (hj : j ≤ n) (hc : n ≤ c) (k : IntKind) :
    ∀ W : World, (Instr.slice 23 (.slice A n c) none (some (.int k (j : Int))) none).run Try.prog W = .ok (.slice A j c) W := by
  obtain ⟨i0, hi, hzz⟩ := Option.map_eq_some_iff.1 infoLk
  intro W
  have := cut_to 23 35 k Try.underlying23 hi A n c (j : Int) (by omega) (by omega) hc W
  simpa using this
theorem two_lk {w : World} : Reps (Lk.K w) 2 [((5 : Int), false), (9, true)] [.int .u64 5, .bool false, .int .u64 9, .bool true] :=
  ⟨rfl, fun j p hj => by
    rcases j with _ | _ | j
    · simp at hj; subst hj; rfl
    · simp at hj; subst hj; rfl
    · simp at hj⟩
theorem C_takeL {w : World} {A : Option Addr} {n : Nat} {l : List (Int × Bool)} (h : Kd.C Lk w A n l) (m : Nat) (hm : m ≤ n) : Kd.C Lk w A m (l.take m) := by
  obtain rfl := C_len h
  have h1 := Kd.C_take (m := m) h hm
  rwa [show (l.take m).length = m by rw [List.length_take]; omega] at h1
theorem C_new (k : IntKind) (w : World) (e : Nat) (xs : List Int) (hm : xs.length ≤ 9223372036854775807) :
    Kd.C (Kd.int k) (w.alloc (.cells (xs.map (Value.int k)).toArray e)) (some ⟨w.heap.size, 0, none⟩) xs.length xs := by
  have hh : (w.alloc (.cells (xs.map (Value.int k)).toArray e)).heap[w.heap.size]? = some (.cells (xs.map (Value.int k)).toArray e (0, 0)) := blk_new w _
  refine ⟨rfl, hm, fun _ => ⟨_, rfl, fun j p hj => ⟨[.int k p], rfl, rfl, fun i u hu => ?_⟩⟩⟩
  obtain ⟨rfl, rfl⟩ : i = 0 ∧ u = .int k p := by
    cases i with
    | zero => simpa using hu.symm
    | succ i => simp at hu
  show (w.alloc _).cell? (Addr.add ⟨w.heap.size, 0, none⟩ (j * 1 + 0)) = _
  rw [add_plain, blk_cell hh]
  simp [hj]
/-- How a Found among the arguments lies. -/
abbrev FdK : Kd (Int × Bool × List (Int × Bool)) := Kd.pair (Kd.int .u64) (Kd.pair Kd.bool (Kd.slice 35 Lk))
theorem opensLk0 : Opens Try.prog 35 (Kd.pair (Kd.int .u64) Kd.bool) (fun p => (Lit.int .u64 p.1).wf = true ∧ True) := by
  apply opens_struct Try.underlying35 (by kernel_rfl)
  show OpensF _ (List.cons _ (List.cons _ List.nil)) _ _ _
  apply @opensF_cons _ _ _ _ _ _ (Kd.int .u64) Kd.bool (fun n => (Lit.int .u64 n).wf = true) (fun _ => True)
  · rfl
  · kernel_rfl
  · exact opens_int Try.underlying22
  apply opensF_one
  · rfl
  · kernel_rfl
  · exact opens_bool Try.underlying4
theorem opensLk : Opens Try.prog 35 Lk (fun p => (Lit.int .u64 p.1).wf = true) := by
  apply Opens.map opensLk0 id
  · intro w y cs h
    obtain ⟨c0, c1, rfl, h0, h1⟩ := h
    rw [show c0 = [.int .u64 y.1] from h0, show c1 = [.bool y.2] from h1]
    rfl
  · exact fun y h => h.1
abbrev WfL (l : List (Int × Bool)) : Prop := l.length ≤ maxLen ∧ ∀ p ∈ l, (Lit.int .u64 p.1).wf = true
theorem opensFd0 : Opens Try.prog 25 FdK (fun x => (Lit.int .u64 x.1).wf = true ∧ (fun y : Bool × List (Int × Bool) => True ∧ WfL y.2) x.2) := by
  apply opens_struct Try.underlying25 (by kernel_rfl)
  show OpensF _ (List.cons _ (List.cons _ (List.cons _ List.nil))) _ _ _
  apply @opensF_cons _ _ _ _ _ _ (Kd.int .u64) (Kd.pair Kd.bool (Kd.slice 35 Lk)) (fun n => (Lit.int .u64 n).wf = true) (fun y : Bool × List (Int × Bool) => True ∧ WfL y.2)
  · rfl
  · kernel_rfl
  · exact opens_int Try.underlying22
  apply @opensF_cons _ _ _ _ _ _ Kd.bool (Kd.slice 35 Lk) (fun _ => True) WfL
  · rfl
  · kernel_rfl
  · exact opens_bool Try.underlying4
  apply opensF_one
  · rfl
  · kernel_rfl
  · exact opens_slice Try.underlying23 (by kernel_rfl) opensLk
theorem opensFd : Opens Try.prog 25 FdK (fun x => (Lit.int .u64 x.1).wf = true ∧ ∀ p ∈ x.2.2, (Lit.int .u64 p.1).wf = true) := by
  apply Opens.mono opensFd0
  exact fun x h => ⟨h.1, h.2.2.2⟩
theorem found_open {w : World} {y : Int × Bool × List (Int × Bool)} {cs : Array Value} (h : FdK.K w y cs.toList) : ∃ A c, cs = #[.int .u64 y.1, .bool y.2.1, .slice A y.2.2.length c] ∧ y.2.2.length ≤ c ∧ Kd.C Lk w A y.2.2.length y.2.2 := by
  obtain ⟨c0, c1, h1, h2, d0, d1, rfl, h4, A, c, rfl, hl, hC⟩ := h
  rw [show c0 = [.int .u64 y.1] from h2, show d0 = [.bool y.2.1] from h4] at h1
  exact ⟨A, c, by rw [← Array.toArray_toList (xs := cs), h1]; rfl, hl, hC⟩
end Go.Proofs.Ytoojmbifkjocfaa.Kit
