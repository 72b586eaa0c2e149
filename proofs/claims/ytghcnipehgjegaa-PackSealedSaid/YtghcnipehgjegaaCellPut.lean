/- A cell stored over another one. No conditions. -/
import Derived.Test.YtghcnipehgjegaaCellSame
namespace Go.Proofs.Ytghcnipehgjegaa.Cell
open Go.RowKit Go.Proofs.YtghcnipehgjegaaW.PrintWords Go.Proofs.YtghcnipehgjegaaW.PrintLast Go.Proofs.YtghcnipehgjegaaW.PrintMore Go.Proofs.Ytghcnipehgjegaa.Kit Go.Proofs.Ytghcnipehgjegaa.Plain
set_option linter.unusedVariables false
set_option linter.unusedSimpArgs false
/-- A cell stored over another one. -/
abbrev putCell (W : World) (g : Nat) (x : Cel) (A : Option Addr) (c : Nat) : World := (((((((((((W.setCell ⟨g, 0, none⟩ (.int .i64 x.kind)).setCell ⟨g, 1, none⟩ (.int .u64 x.num)).setCell ⟨g, 2, none⟩ (.int .i64 x.min)).setCell ⟨g, 3, none⟩ (.int .i64 x.br)).setCell ⟨g, 4, none⟩ (.int .i64 x.vol)).setCell ⟨g, 5, none⟩ (.int .i64 x.blk)).setCell ⟨g, 6, none⟩ (.int .u64 x.ref)).setCell ⟨g, 7, none⟩ (.int .i64 x.fr)).setCell ⟨g, 8, none⟩ (.int .i64 x.to)).setCell ⟨g, 9, none⟩ (.int .i64 x.un)).setCell ⟨g, 10, none⟩ (.slice A x.body.length c))
theorem putCell_at {W : World} {g : Nat} {t : TypeId} {x y : Cel} {A A' : Option Addr} {c c' : Nat} (h : W.heap[g]? = some (.cells (celA y A' c') t (0, 0))) : (putCell W g x A c).heap[g]? = some (.cells (celA x A c) t (0, 0)) := by
  have h1 := (blk_set (blk_set (blk_set (blk_set (blk_set (blk_set (blk_set (blk_set (blk_set (blk_set (blk_set h 0 (.int .i64 x.kind)) 1 (.int .u64 x.num)) 2 (.int .i64 x.min)) 3 (.int .i64 x.br)) 4 (.int .i64 x.vol)) 5 (.int .i64 x.blk)) 6 (.int .u64 x.ref)) 7 (.int .i64 x.fr)) 8 (.int .i64 x.to)) 9 (.int .i64 x.un)) 10 (.slice A x.body.length c))
  simp only [List.setIfInBounds_toArray, List.set_cons_zero, List.set_cons_succ] at h1
  exact h1
theorem putCell_far {W : World} {g k : Nat} {x : Cel} {A : Option Addr} {c : Nat} (hk : k ≠ g) : (putCell W g x A c).heap[k]? = W.heap[k]? :=
  ((Below.heap_setCell _ ⟨g, 10, none⟩ (.slice A x.body.length c) k hk).trans ((Below.heap_setCell _ ⟨g, 9, none⟩ (.int .i64 x.un) k hk).trans ((Below.heap_setCell _ ⟨g, 8, none⟩ (.int .i64 x.to) k hk).trans ((Below.heap_setCell _ ⟨g, 7, none⟩ (.int .i64 x.fr) k hk).trans ((Below.heap_setCell _ ⟨g, 6, none⟩ (.int .u64 x.ref) k hk).trans ((Below.heap_setCell _ ⟨g, 5, none⟩ (.int .i64 x.blk) k hk).trans ((Below.heap_setCell _ ⟨g, 4, none⟩ (.int .i64 x.vol) k hk).trans ((Below.heap_setCell _ ⟨g, 3, none⟩ (.int .i64 x.br) k hk).trans ((Below.heap_setCell _ ⟨g, 2, none⟩ (.int .i64 x.min) k hk).trans ((Below.heap_setCell _ ⟨g, 1, none⟩ (.int .u64 x.num) k hk).trans ((Below.heap_setCell _ ⟨g, 0, none⟩ (.int .i64 x.kind) k hk).trans rfl)))))))))))
theorem putCell_below {w W : World} {B g : Nat} {x : Cel} {A : Option Addr} {c : Nat} (HB : Below B w W) (hg : B ≤ g) : Below B w (putCell W g x A c) := by
  exact (((((((((((HB.setCell hg (.int .i64 x.kind)).setCell hg (.int .u64 x.num)).setCell hg (.int .i64 x.min)).setCell hg (.int .i64 x.br)).setCell hg (.int .i64 x.vol)).setCell hg (.int .i64 x.blk)).setCell hg (.int .u64 x.ref)).setCell hg (.int .i64 x.fr)).setCell hg (.int .i64 x.to)).setCell hg (.int .i64 x.un)).setCell hg (.slice A x.body.length c))
end Go.Proofs.Ytghcnipehgjegaa.Cell
