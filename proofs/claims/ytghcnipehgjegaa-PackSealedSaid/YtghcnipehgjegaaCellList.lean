/- Rows of cells: their bytes, how they are read, how they open. (Taken from this session's CellRows, for the seats of higher layers.) No conditions. -/
import Derived.Test.YtghcnipehgjegaaCellOpen
import Derived.Test.YtghcnipehgjegaaCellAll
namespace Go.Proofs.Ytghcnipehgjegaa.Cell
open Go.RowKit Go.Proofs.YtghcnipehgjegaaW.PrintWords Go.Proofs.YtghcnipehgjegaaW.PrintLast Go.Proofs.YtghcnipehgjegaaW.PrintMore Go.Proofs.Ytghcnipehgjegaa.Kit Go.Proofs.Ytghcnipehgjegaa.Plain Go.Proofs.Ytghcnipehgjegaa.Wire
set_option linter.unusedVariables false
set_option linter.unusedSimpArgs false
theorem add_plus (a : Addr) (j k : Nat) : a.add (j + (k + 1)) = ⟨(a.add j).block, (a.add j).off + (k + 1), none⟩ := by
  unfold Addr.add
  split <;> split <;> simp_all <;> omega
theorem opensCels : Opens Try.prog 22 (Kd.slice 30 CelD) (fun l => l.length ≤ maxLen ∧ ∀ x ∈ l, CelTy x) := opens_slice Try.underlying22 (by kernel_rfl) opensCel
/-- The cells of an element of a row of cells. -/
abbrev CelIn (W : World) (a : Addr) (x : Cel) (A : Option Addr) (c : Nat) : Prop :=
  W.cell? a = some (.int .i64 x.kind) ∧ W.cell? ⟨a.block, a.off + 1, none⟩ = some (.int .u64 x.num) ∧ W.cell? ⟨a.block, a.off + 2, none⟩ = some (.int .i64 x.min) ∧ W.cell? ⟨a.block, a.off + 3, none⟩ = some (.int .i64 x.br) ∧ W.cell? ⟨a.block, a.off + 4, none⟩ = some (.int .i64 x.vol) ∧ W.cell? ⟨a.block, a.off + 5, none⟩ = some (.int .i64 x.blk) ∧
  W.cell? ⟨a.block, a.off + 6, none⟩ = some (.int .u64 x.ref) ∧ W.cell? ⟨a.block, a.off + 7, none⟩ = some (.int .i64 x.fr) ∧ W.cell? ⟨a.block, a.off + 8, none⟩ = some (.int .i64 x.to) ∧ W.cell? ⟨a.block, a.off + 9, none⟩ = some (.int .i64 x.un) ∧ W.cell? ⟨a.block, a.off + 10, none⟩ = some (.slice A x.body.length c)
theorem cel_row {W : World} {B : Option Addr} {n : Nat} {l : List Cel} (h : Kd.C CelD W B n l) (i : Nat) (hi : i < n) : ∃ ad A c, B = some ad ∧ CelIn W (ad.add (i * 11)) (gdC l i) A c ∧ (gdC l i).body.length ≤ c ∧ RdN W A (gdC l i).body.length (gdC l i).body := by
  obtain ⟨ad, cs, e, _, hK, hc⟩ := Kd.C_get h cel0 (i : Int) (by omega) (by omega)
  obtain ⟨A, c, rfl, hl, hC⟩ := celD_open hK
  have hg : ∀ j u, (celA (gdC l i) A c).toList[j]? = some u → W.cell? (ad.add (i * 11 + j)) = some u := hc
  refine ⟨ad, A, c, e, ⟨hg 0 _ rfl, ?_, ?_, ?_, ?_, ?_, ?_, ?_, ?_, ?_, ?_⟩, hl, hC⟩ <;> rw [← add_plus]
  · exact hg 1 _ rfl
  · exact hg 2 _ rfl
  · exact hg 3 _ rfl
  · exact hg 4 _ rfl
  · exact hg 5 _ rfl
  · exact hg 6 _ rfl
  · exact hg 7 _ rfl
  · exact hg 8 _ rfl
  · exact hg 9 _ rfl
  · exact hg 10 _ rfl
theorem CelIn.below {w W : World} {a : Addr} {x : Cel} {A : Option Addr} {c : Nat} (h : CelIn w a x A c) (hb : Below w.heap.size w W) : CelIn W a x A c := by
  obtain ⟨h0, h1, h2, h3, h4, h5, h6, h7, h8, h9, h10⟩ := h
  exact ⟨pw_cell_below hb h0, pw_cell_below hb h1, pw_cell_below hb h2, pw_cell_below hb h3, pw_cell_below hb h4, pw_cell_below hb h5, pw_cell_below hb h6, pw_cell_below hb h7, pw_cell_below hb h8, pw_cell_below hb h9, pw_cell_below hb h10⟩
end Go.Proofs.Ytghcnipehgjegaa.Cell
