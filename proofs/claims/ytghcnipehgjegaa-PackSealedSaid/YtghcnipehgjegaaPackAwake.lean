/- The document's example of layer 13. No conditions. -/
import Derived.Test.YtghcnipehgjegaaPackFill
namespace Go.Proofs.Ytghcnipehgjegaa.Cell
open Go.RowKit Go.Proofs.YtghcnipehgjegaaW.PrintWords Go.Proofs.YtghcnipehgjegaaW.PrintLast Go.Proofs.YtghcnipehgjegaaW.PrintMore Go.Proofs.Ytghcnipehgjegaa.Kit Go.Proofs.Ytghcnipehgjegaa.Plain Go.Proofs.Ytghcnipehgjegaa.Wire
set_option linter.unusedVariables false
set_option linter.unusedSimpArgs false
def celF : Cel := ⟨1, 1, 0, 0, 0, 0, 0, 0, 0, 0, List.replicate 32 0⟩
def celM : Cel := ⟨8, 2, 0, 0, 0, 0, 0, 0, 0, 0, []⟩
theorem byt_zeros (n : Nat) : Byt (List.replicate n 0) := fun x hx => by
  obtain ⟨_, rfl⟩ := List.mem_replicate.1 hx
  exact ⟨by decide, by decide⟩
theorem tyF : CelTy celF := ⟨⟨⟨by decide, by decide⟩, ⟨by decide, by decide⟩, byt_zeros 32⟩, ⟨by decide, by decide⟩, by decide⟩
theorem tyM : CelTy celM := ⟨⟨⟨by decide, by decide⟩, ⟨by decide, by decide⟩, Byt.nil⟩, ⟨by decide, by decide⟩, by decide⟩
theorem awake_says : ((fillP ([celF, celF, celM, celF].map encS)).1.map List.length, (fillP ([celF, celF, celM, celF].map encS)).2) = ([99, 46], [0, 0, 0, 1]) := by decide +kernel
theorem fine4 : ∀ x ∈ [celF, celF, celM, celF], CelTy x ∧ rightB x = true := by
  have hF : rightB celF = true := by decide +kernel
  have hM : rightB celM = true := by decide +kernel
  intro x hx
  simp only [List.mem_cons, List.not_mem_nil, or_false] at hx
  rcases hx with rfl | rfl | rfl | rfl
  · exact ⟨tyF, hF⟩
  · exact ⟨tyF, hF⟩
  · exact ⟨tyM, hM⟩
  · exact ⟨tyF, hF⟩
theorem reps4 {W : World} {A : Option Addr} {c : Nat} (hc : 32 ≤ c) (h : RdN W A 32 (List.replicate 32 0)) : Reps (CelD.K W) 11 [celF, celF, celM, celF] ((celA celF A c).toList ++ ((celA celF A c).toList ++ ((celA celM none 0).toList ++ (celA celF A c).toList))) :=
  ⟨rfl, fun j p hj => by
    have hF : CelD.K W celF (celA celF A c).toList := celD_mk hc h
    have hM : CelD.K W celM (celA celM none 0).toList := celD_mk (Nat.le_refl 0) (RdB_nil _)
    rcases j with _ | _ | _ | _ | j
    · simp only [List.getElem?_cons_zero, Option.some.injEq] at hj; subst hj; exact hF
    · simp only [List.getElem?_cons_succ, List.getElem?_cons_zero, Option.some.injEq] at hj; subst hj; exact hF
    · simp only [List.getElem?_cons_succ, List.getElem?_cons_zero, Option.some.injEq] at hj; subst hj; exact hM
    · simp only [List.getElem?_cons_succ, List.getElem?_cons_zero, Option.some.injEq] at hj; subst hj; exact hF
    · simp at hj⟩
theorem awake_reads {W : World} {base : Nat} {va vp : Value} (ha : OwS W base va (fillP ([celF, celF, celM, celF].map encS)).1) (hp : OwI W base vp (fillP ([celF, celF, celM, celF].map encS)).2) :
    ∃ A1 A2 g ca g2 cp, va = .slice (some ⟨g, 0, none⟩) 2 ca ∧ vp = .slice (some ⟨g2, 0, none⟩) 4 cp ∧ (∃ k, W.cell? ⟨g, 0, none⟩ = some (.slice A1 99 k)) ∧ (∃ k, W.cell? ⟨g, 1, none⟩ = some (.slice A2 46 k)) ∧ W.cell? ⟨g2, 2, none⟩ = some (.int .i64 0) ∧ W.cell? ⟨g2, 3, none⟩ = some (.int .i64 1) := by
  obtain ⟨s, hs⟩ : ∃ s, s = fillP ([celF, celF, celM, celF].map encS) := ⟨_, rfl⟩
  have hsay := awake_says
  rw [← hs] at ha hp hsay
  obtain ⟨B, I⟩ := s
  simp only [Prod.mk.injEq] at hsay ha hp
  obtain ⟨h1, rfl⟩ := hsay
  obtain ⟨x, y, rfl⟩ : ∃ x y, B = [x, y] := by
    rcases B with _ | ⟨x, _ | ⟨y, _ | ⟨z, t⟩⟩⟩ <;> simp at h1 ⊢
  simp only [List.map_cons, List.map_nil, List.cons.injEq, and_true] at h1
  obtain ⟨hx, hy⟩ := h1
  obtain ⟨Aa, ca, rfl⟩ := Kd.S_slice ha
  obtain ⟨Ap, cp, rfl⟩ := Kd.R_slice hp
  obtain ⟨a1, rfl, _⟩ := (Kd.S_reads' ha).2.2.2.2 (by simp)
  obtain ⟨g, rfl⟩ := Kd.R_head (Kd.S_R ha)
  obtain ⟨a2, rfl, _⟩ := (Kd.R_reads' hp).2.2.2.2 (by decide)
  obtain ⟨g2, rfl⟩ := Kd.R_head hp
  obtain ⟨A1, k1, e1⟩ := body_cell ha 0 (by simp)
  obtain ⟨A2, k2, e2⟩ := body_cell ha 1 (by simp)
  rw [show nthR [x, y] 0 = x from rfl, hx] at e1
  rw [show nthR [x, y] 1 = y from rfl, hy] at e2
  exact ⟨A1, A2, g, ca, g2, cp, rfl, rfl, ⟨k1, e1⟩, ⟨k2, e2⟩, (R_at hp 2 (by decide)).1, (R_at hp 3 (by decide)).1⟩
set_option maxHeartbeats 3200000 in
set_option maxRecDepth 100000 in
theorem awake13_any (w : World) : Calls Try.prog 9 #[] w fun e w' => e = .returned (.bool true) ∧ Below w.heap.size w w' := by
  have HB := Aside0.mk (Below.refl w.heap.size w)
  go_enter Try.func9, Try.ntmps9
  go_upto_region 2 with ((with_reducible refine gate_dst (N := 5) rfl ?_); go_must (refine Kd.R_make (Kd.int .u8) w.heap.size 5 rfl (N := 5) rfl 28 _ _ rfl 32 rfl rfl Try.underlying28 (.int .u8 0) 1 infoU8 rfl (by decide) (by omega) 0 (ok := fun _ => True) (okp := fun _ => True) rfl (fun _ hk => hk) trivial (by decide) (by decide) (Below.refl _ _) (Nat.le_refl _) ?_; intro v w1 ho hb hg hn; obtain ⟨A1, n1, c1, rfl, hk1, hr1⟩ := Ow_sliceP ho; obtain rfl : 32 = n1 := C_len hr1; have HR1 := Aside0.mk (show RdN w1 A1 32 (List.replicate 32 0) from hr1); have HK1 := Aside0.mk hk1; clear HB; have HB := Aside0.mk hb; clear ho hb hg hn hk1 hr1))
  obtain ⟨w2, hw2⟩ : ∃ W, W = w1.alloc (.cells #[.int .i64 1, .int .u64 1, .int .i64 0, .int .i64 0, .int .i64 0, .int .i64 0, .int .u64 0, .int .i64 0, .int .i64 0, .int .i64 0, .slice A1 32 c1] 30) := ⟨_, rfl⟩
  rw [← hw2]
  have hb : Below w1.heap.size w1 w2 := by rw [hw2]; exact below_alloc (Below.refl _ _) _
  have hD : w2.heap[w1.heap.size]? = some (.cells (celA celF A1 c1) 30 (0, 0)) := by rw [hw2]; exact blk_new _ _
  replace HR1 := Aside0.mk (Kd.C_below HR1.out hb)
  replace HB := Aside0.mk (HB.out.trans (hb.mono HB.out.size));
  clear hw2 hb
  obtain ⟨c0, k1, k2, k3, k4, k5, k6, k7, k8, k9⟩ := cel_at (x := celF) (A := A1) (c := c1) hD
  have k10 : w2.cell? ⟨w1.heap.size, 10, none⟩ = some (.slice A1 32 c1) := blk_cell hD 10
  simp only [celF] at c0 k1 k2 k3 k4 k5 k6 k7 k8 k9
  clear hD
  go_upto_region 3 with (first
    | ((with_reducible refine gate_dst (N := 12) rfl ?_); go_must (refine litC CelD w.heap.size 30 rfl [celF, celF, celM, celF] _ ?hr (reps4 HK1.out HR1.out) HB.out HB.out.size (by decide) ?_; (case hr => first | (go_simp; done) | (go_simp; rfl)); intro w3 hb0 hb hC; have HC := Aside0.mk hC; clear HB; have HB := Aside0.mk hb0; clear hb0 hb hC))
    | (go_at_call 11; go_must (refine (fill_any _ 4 4 [celF, celF, celM, celF] _ HC.out (fun x hx => (fine4 x hx).1) (by decide) (fun x hx => (fine4 x hx).2)).mono ?_; rintro e y1 ⟨⟨va, vp, rfl, ha, hp⟩, hb⟩; obtain ⟨x, y, g, ca, g2, cp, rfl, rfl, ⟨j1, hx1⟩, ⟨j2, hx2⟩, hp2, hp3⟩ := awake_reads ha hp; replace HB := Aside0.mk (HB.out.trans (hb.mono HB.out.size)); clear ha hp hb)))
  go_wp2
  go_ret
  exact ⟨rfl, HB.out⟩
end Go.Proofs.Ytghcnipehgjegaa.Cell
