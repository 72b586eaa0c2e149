/- What the statements of layer 53 lean on: awake; Again. -/
import Derived.Test.YtoojmbifkjocfaaProof
import Derived.Test.YtoojmbifkjocfaaU64
namespace Go.Proofs.Ytoojmbifkjocfaa.Proof
open Go.RowKit Go.Proofs.YtoojmbifkjocfaaW.PrintWords Go.Proofs.YtoojmbifkjocfaaW.PrintLast Go.Proofs.YtoojmbifkjocfaaW.PrintMore Go.Proofs.Ytoojmbifkjocfaa.Kit Go.Proofs.Ytoojmbifkjocfaa.Plain
set_option linter.unusedVariables false
set_option linter.unusedSimpArgs false
theorem wf_359 : ∀ x ∈ [(3 : Int), 5, 9], (Lit.int .u64 x).wf = true := by decide +kernel
theorem wf_59 : ∀ p ∈ [((5 : Int), false), (9, true)], (Lit.int .u64 p.1).wf = true := by decide +kernel
theorem wf_5 : ∀ p ∈ [((5 : Int), false)], (Lit.int .u64 p.1).wf = true := by decide +kernel
theorem new_moms (w : World) (o1 o2 : Obj) : RdM (((w.alloc o1).alloc o2).alloc (.cells #[.int .u64 3, .int .u64 5, .int .u64 9] 22)) (some ⟨w.heap.size + 1 + 1, 0, none⟩) 3 [3, 5, 9] := by
  have h := C_new .u64 ((w.alloc o1).alloc o2) 22 [3, 5, 9] (by decide)
  rw [show ((w.alloc o1).alloc o2).heap.size = w.heap.size + 1 + 1 by simp] at h
  exact h
theorem new_found2 {w w' : World} {o1 o2 o3 : Obj} (hb : Below (((w.alloc o1).alloc o2).alloc o3).heap.size (((w.alloc o1).alloc o2).alloc o3) w') : w'.heap[w.heap.size + 1]? = some o2 := by
  have h := blk_alloc (blk_new (w.alloc o1) o2) o3
  rw [show (w.alloc o1).heap.size = w.heap.size + 1 by simp] at h
  exact (hb.block _ (by simp)).trans h
theorem three_new {w w' : World} {o1 o2 o3 : Obj} (hb : Below (((w.alloc o1).alloc o2).alloc o3).heap.size (((w.alloc o1).alloc o2).alloc o3) w') : Below w.heap.size w w' :=
  (below_alloc (below_alloc (below_alloc (Below.refl _ _) _) _) _).trans (hb.mono (by simp; omega))
theorem one_new {w w' : World} {o1 : Obj} (hb : Below (w.alloc o1).heap.size (w.alloc o1) w') : Below w.heap.size w w' :=
  (below_alloc (Below.refl _ _) _).trans (hb.mono (by simp))
set_option maxHeartbeats 1600000 in
set_option maxRecDepth 100000 in
theorem awake_any (w : World) : Calls Try.prog 10 #[] w fun e w' => e = .returned (.bool true) ∧ Below w.heap.size w w' := by
  have HB := Aside0.mk (Below.refl w.heap.size w)
  have cL := cutLk (some ⟨w.heap.size, 0, none⟩) 2 2 1 (by omega) (by omega) .i64
  go_enter Try.func10, Try.ntmps10
  go_wp2_with (first
    | ((with_reducible refine gate_dst (N := 5) rfl ?_); go_must (refine litC Lk w.heap.size 35 rfl [(5, false), (9, true)] [.int .u64 5, .bool false, .int .u64 9, .bool true] ?hr two_lk HB.out HB.out.size (by simp) ?_; (case hr => first | (go_simp; done) | (go_simp; rfl)); intro w2 hb hbb hr2; have HR2 := Aside0.mk (show Kd.C Lk w2 (some ⟨w.heap.size, 0, none⟩) 2 [(5, false), (9, true)] from hr2); clear HB; have HB := Aside0.mk hb; clear hr2 hb hbb))
    | (go_at_call 11; first
      | ((with_reducible refine (check_any 5 true (some ⟨w.heap.size, 0, none⟩) 2 2 [(5, false), (9, true)] (some ⟨w2.heap.size + 1 + 1, 0, none⟩) 3 3 [3, 5, 9] _ ?ha ?hb2 (by decide +kernel) wf_59 wf_359).mono ?_); (case ha => exact Kd.C_below HR2.out (below_alloc (below_alloc (below_alloc (Below.refl _ _) _) _) _)); (case hb2 => exact new_moms w2 _ _); rintro e w3 ⟨rfl, hb⟩; rw [stand_awake]; have HB3 := Aside0.mk (HB.out.trans ((three_new hb).mono HB.out.size)); have HR3 := Aside0.mk (C_takeL (Kd.C_below HR2.out (three_new hb)) 1 (by omega)); have k2 := new_found2 hb; obtain ⟨x0, x1, x2⟩ := found_cells k2; clear hb k2)
      | go_must ((refine (check_any 5 true (some ⟨w.heap.size, 0, none⟩) 1 2 [(5, false)] (some ⟨w3.heap.size, 0, none⟩) 3 3 [3, 5, 9] _ (Kd.C_below HR3.out (below_alloc (Below.refl _ _) _)) (C_new .u64 w3 22 [3, 5, 9] (by decide)) (by decide +kernel) wf_5 wf_359).mono ?_); rintro e w4 ⟨rfl, hb⟩; rw [stand_awake2]; have HB4 := Aside0.mk (HB3.out.trans ((one_new hb).mono HB3.out.size)); clear hb)))
  go_ret
  exact ⟨rfl, HB4.out⟩
end Go.Proofs.Ytoojmbifkjocfaa.Proof
