/- Of moments that don't rise nothing is looked at; where nothing can be bad the last one is found. -/
import Derived.Test.YteikmlgcmhgaoaaSearchNil
import Derived.Test.YteikmlgcmhgaoaaSearchCut
import Derived.IntWalk
import Derived.Outline
import Derived.Deep.DeepMust
namespace Go.Proofs.Yteikmlgcmhgaoaa.Search
open Go.RowKit Go.Proofs.YteikmlgcmhgaoaaW.PrintWords Go.Proofs.YteikmlgcmhgaoaaW.PrintLast Go.Proofs.YteikmlgcmhgaoaaW.PrintMore Go.Proofs.Yteikmlgcmhgaoaa.Kit Go.Proofs.Yteikmlgcmhgaoaa.Plain
set_option linter.unusedVariables false
set_option linter.unusedSimpArgs false
abbrev noB : Int → Bool := fun _ => false
theorem fstB_no (l : List Int) : ∀ i, fstB l noB i = l.length
  | 0 => rfl
  | i + 1 => by rw [fstB, if_neg (fun h => by cases h.1), fstB_no l i]
theorem last_no {l : List Int} (h : riseB l = true) : lastS l noB = ⟨nth l (l.length - 1), true, [(nth l (l.length - 1), false)]⟩ := by
  rw [lastS, if_neg (by simp [h]), if_pos rfl]
theorem each_no {l : List Int} (h : riseB l = true) : eachS l noB = ⟨nth l (l.length - 1), true, lkB l noB l.length⟩ := by
  obtain ⟨h0, _⟩ := riseB_spec h
  rw [eachS, if_neg (by simp [h]), fstB_no, if_neg (by omega)]
theorem C_emp (w : World) (A : Option Addr) : Kd.C Lk w A 0 [] := ⟨rfl, by decide, fun h => absurd h (by simp)⟩
theorem none_below {w w1 w5 w7 w8 : World} {o1 o2 o3 : Obj} (h1 : Below w.heap.size w w1) (h2 : Below w1.heap.size w1 w5) (h3 : Kp w1.heap.size ((w5.alloc o1).alloc o2) w7) (h4 : Below (w7.alloc o3).heap.size (w7.alloc o3) w8) : Below w.heap.size w w8 := by
  have s1 := h1.size
  have s2 := h2.size
  have s3 := h3.size
  have s4 : ((w5.alloc o1).alloc o2).heap.size = w5.heap.size + 2 := by simp
  have s5 : (w7.alloc o3).heap.size = w7.heap.size + 1 := by simp
  have a1 : Below w.heap.size w w5 := h1.trans (h2.mono s1)
  have a2 : Below w.heap.size w5 ((w5.alloc o1).alloc o2) := (below_alloc (below_alloc (Below.refl _ _) o1) o2).mono (by omega)
  have a3 : Below w.heap.size ((w5.alloc o1).alloc o2) w7 := { os := h3.os, tape := h3.tape, output := h3.output, size := h3.size, block := fun k hk => h3.block k (by omega) (by omega) }
  have a4 : Below w.heap.size w7 (w7.alloc o3) := (below_alloc (Below.refl _ _) o3).mono (by omega)
  exact (((a1.trans a2).trans a3).trans a4).trans (h4.mono (by omega))
/-- Three that were found, and how often one asked. -/
structure NF (W : World) (g5 g7 gc : Nat) (m5 m6 m7 : Int) (o5 o6 o7 : Bool) (v5 v6 v7 : Value) (k : Nat) : Prop where
  h5 : W.heap[g5]? = some (foundObj m5 o5 v5)
  h6 : W.heap[g5 + 1]? = some (foundObj m6 o6 v6)
  h7 : W.heap[g7]? = some (foundObj m7 o7 v7)
  hc : W.heap[gc]? = some (cntObj k)
theorem NF.below {W W' : World} {g5 g7 gc : Nat} {m5 m6 m7 : Int} {o5 o6 o7 : Bool} {v5 v6 v7 : Value} {k : Nat} (h : NF W g5 g7 gc m5 m6 m7 o5 o6 o7 v5 v6 v7 k) (hb : Below W.heap.size W W') : NF W' g5 g7 gc m5 m6 m7 o5 o6 o7 v5 v6 v7 k :=
  ⟨blk_below h.h5 hb, blk_below h.h6 hb, blk_below h.h7 hb, blk_below h.hc hb⟩
theorem NF.cells {W : World} {g5 g7 gc : Nat} {m5 m6 m7 : Int} {o5 o6 o7 : Bool} {v5 v6 v7 : Value} {k : Nat} (h : NF W g5 g7 gc m5 m6 m7 o5 o6 o7 v5 v6 v7 k) :
    W.cell? ⟨g5, 0, none⟩ = some (.int .u64 m5) ∧ W.cell? ⟨g5, 1, none⟩ = some (.bool o5) ∧ W.cell? ⟨g5, 2, none⟩ = some v5 ∧
    W.cell? ⟨g5 + 1, 0, none⟩ = some (.int .u64 m6) ∧ W.cell? ⟨g5 + 1, 1, none⟩ = some (.bool o6) ∧ W.cell? ⟨g5 + 1, 2, none⟩ = some v6 ∧
    W.cell? ⟨g7, 0, none⟩ = some (.int .u64 m7) ∧ W.cell? ⟨g7, 1, none⟩ = some (.bool o7) ∧ W.cell? ⟨g7, 2, none⟩ = some v7 ∧ W.cell? ⟨gc, 0, none⟩ = some (.int .i64 (k : Int)) :=
  ⟨blk_cell h.h5 0, blk_cell h.h5 1, blk_cell h.h5 2, blk_cell h.h6 0, blk_cell h.h6 1, blk_cell h.h6 2, blk_cell h.h7 0, blk_cell h.h7 1, blk_cell h.h7 2, blk_cell h.hc 0⟩
abbrev foundObj0 (a : Int) (o : Bool) (v : Value) : Obj := .cells #[.int .u64 a, .bool o, v] 31
theorem NF.make {W W7 : World} {gc : Nat} {m5 m6 m7 : Int} {o5 o6 o7 : Bool} {v5 v6 v7 : Value} {k : Nat} (hgc : gc < W.heap.size)
    (hk : Kp gc ((W.alloc (foundObj0 m5 o5 v5)).alloc (foundObj0 m6 o6 v6)) W7) (hc : W7.heap[gc]? = some (cntObj k)) :
    NF (W7.alloc (foundObj0 m7 o7 v7)) W.heap.size W7.heap.size gc m5 m6 m7 o5 o6 o7 v5 v6 v7 k := by
  have a1 : (W.alloc (foundObj0 m5 o5 v5)).heap.size = W.heap.size + 1 := by simp
  obtain ⟨k5, k6, hb6⟩ := two_new (w := W) (o1 := foundObj0 m5 o5 v5) (o2 := foundObj0 m6 o6 v6) (Below.refl _ _)
  have e : ((W.alloc (foundObj0 m5 o5 v5)).alloc (foundObj0 m6 o6 v6)).heap.size = W.heap.size + 2 := by simp
  exact ⟨blk_alloc ((hk.block _ (by omega) (by omega)).trans k5) _, blk_alloc ((hk.block _ (by omega) (by omega)).trans k6) _, blk_new W7 _, blk_alloc hc _⟩
set_option maxHeartbeats 1600000 in
set_option maxRecDepth 100000 in
theorem snone_any (A : Option Addr) (n c : Nat) (l : List Int) (w : World) (hr : RdM w A n l) (hl : ∀ x ∈ l, 0 ≤ x) :
    Calls Try.prog 8 #[.slice A n c] w fun e w' => e = .returned (.bool true) ∧ Below w.heap.size w w' := by
  obtain rfl := C_len hr
  have HB := Aside0.mk (Below.refl w.heap.size w)
  have HR := Aside0.mk hr
  clear hr
  have hmf : ∀ (fn : Fn) (first cap : Array Value) (w : World), (Instr.makeFunc fn first cap).run Try.prog w = .ok (.func fn first cap) w := fun _ _ _ _ => rfl
  by_cases hn : l.length ≤ 200
  · have f1 : decide ((200 : Int) < (l.length : Int)) = false := decide_eq_false (by omega)
    have hn2 : l.length ≤ 100000 := by omega
    by_cases hrise : riseB l = false
    · have HL : Aside0 (lastS l noB = ⟨0, false, []⟩) := ⟨by rw [lastS, if_pos hrise]⟩
      have HE : Aside0 (eachS l noB = ⟨0, false, []⟩) := ⟨by rw [eachS, if_pos hrise]⟩
      go_enter Try.func8, Try.ntmps8
      go_wp2_with (first
        | (go_at_call 11; go_must (refine (awake_any _).mono ?_; rintro e w1 ⟨rfl, hb⟩; replace HR := Aside0.mk (Kd.C_below HR.out hb); have HR1 := HR; replace HR := Aside0.mk (Kd.C_below HR.out (below_alloc (Below.refl _ _) (.cells #[.int .i64 0] 3))); have HC := Aside0.mk (show (w1.alloc (.cells #[.int .i64 0] 3)).heap[w1.heap.size]? = some (cntObj 0) from blk_new w1 _); have HW := Aside0.mk (below_alloc (Below.refl w1.heap.size w1) (.cells #[.int .i64 0] 3)); replace HB := Aside0.mk (HB.out.trans (hb.mono HB.out.size)); clear hb))
        | (go_at_call 14; go_must (refine (last_st _ HR.out hl hn2 (asks_nil HR.out)).mono ?_; rintro e w4 ⟨A4, c4, rfl, _, hb⟩; rw [HL.out]; have hW := HW.out.size; replace HC := Aside0.mk (blk_below HC.out hb); replace HR := Aside0.mk (Kd.C_below HR.out hb); replace HW := Aside0.mk (HW.out.trans (hb.mono hW)); clear hW; clear hb))
        | (go_at_call 19; first | ((with_reducible refine (each_st _ HR.out hl hn2 (asks_nil HR.out)).mono ?_); rintro e w5 ⟨A5, c5, rfl, _, hb⟩; rw [HE.out]; have hW := HW.out.size; replace HC := Aside0.mk (blk_below HC.out hb); replace HR := Aside0.mk (Kd.C_below HR.out hb); replace HW := Aside0.mk (HW.out.trans (hb.mono hW)); clear hW; clear hb) | go_must (refine (each_any _ _ _ l _ _ noB _ (Kd.C_below HR.out (below_alloc (below_alloc (Below.refl _ _) _) _)) hl hn2 (asks_count (Kd.C_below HR.out (below_alloc (below_alloc (Below.refl _ _) _) _)) (fun W hk => rd_kp HR1.out ((HW.out.alloc HW.out.size _).alloc (by have := HW.out.size; simp; omega) _) (Nat.le_refl _) hk) (blk_alloc (blk_alloc HC.out _) _))).mono ?_; rintro e w7 ⟨v7, W7, rfl, hs, ho⟩; obtain ⟨A7, c7, rfl, _, hk7, hc7⟩ := hs.after (by have := blk_lt HC.out; simp; omega) ho; rw [HE.out] at hc7 ⊢; have HN := Aside0.mk (NF.make (m7 := 0) (o7 := false) (v7 := (.slice A7 0 c7)) (blk_lt HC.out) hk7 hc7); have HK := Aside0.mk hk7; clear hk7 hc7 hs ho; (try clear p0 p1 p2 q0 q1 q2 r0 r1 r2 c0); obtain ⟨p0, p1, p2, q0, q1, q2, r0, r1, r2, c0⟩ := HN.out.cells))
        | (go_at_call 16; go_must (refine (refrise_any _ _ _ l _ (Kd.C_below (rd_kp HR1.out ((HW.out.alloc HW.out.size _).alloc (by have := HW.out.size; simp; omega) _) (Nat.le_refl _) HK.out) (below_alloc (Below.refl _ _) _))).mono ?_; rintro e w8 ⟨rfl, hb⟩; rw [hrise]; replace HN := Aside0.mk (HN.out.below hb); replace HB := Aside0.mk (none_below HB.out HW.out HK.out hb); clear hb; (try clear p0 p1 p2 q0 q1 q2 r0 r1 r2 c0); obtain ⟨p0, p1, p2, q0, q1, q2, r0, r1, r2, c0⟩ := HN.out.cells))
        | (go_at_call 13; go_must (refine (same_any _ _ _ _ _ _ _ _ [] _ (C_emp _ _) (Kd.C_nil _ _)).mono ?_; rintro e w9 ⟨rfl, hb⟩; replace HB := Aside0.mk (HB.out.trans (hb.mono HB.out.size)); replace HN := Aside0.mk (HN.out.below hb); clear hb; (try clear p0 p1 p2 q0 q1 q2 r0 r1 r2 c0); obtain ⟨p0, p1, p2, q0, q1, q2, r0, r1, r2, c0⟩ := HN.out.cells)))
      go_ret
      exact ⟨rfl, HB.out⟩
    have hrise1 : riseB l = true := by simpa using hrise
    obtain ⟨hl0, _⟩ := riseB_spec hrise1
    obtain ⟨K, hK⟩ : ∃ K, K = l.length - 1 := ⟨_, rfl⟩
    have hKl : K < l.length := by omega
    have eK : (l.length : Int) - 1 = (K : Int) := by omega
    obtain ⟨ad, rfl, _⟩ := C_at HR.out K hKl
    have HL : Aside0 (lastS l noB = ⟨nth l K, true, [(nth l K, false)]⟩) := ⟨by rw [last_no hrise1, ← hK]⟩
    have HE : Aside0 (eachS l noB = ⟨nth l K, true, lkB l noB l.length⟩) := ⟨by rw [each_no hrise1, ← hK]⟩
    clear hK
    go_enter Try.func8, Try.ntmps8
    go_wp2_with (first
      | (go_at_call 11; go_must (refine (awake_any _).mono ?_; rintro e w1 ⟨rfl, hb⟩; replace HR := Aside0.mk (Kd.C_below HR.out hb); have HR1 := HR; replace HR := Aside0.mk (Kd.C_below HR.out (below_alloc (Below.refl _ _) (.cells #[.int .i64 0] 3))); have HC := Aside0.mk (show (w1.alloc (.cells #[.int .i64 0] 3)).heap[w1.heap.size]? = some (cntObj 0) from blk_new w1 _); have HW := Aside0.mk (below_alloc (Below.refl w1.heap.size w1) (.cells #[.int .i64 0] 3)); replace HB := Aside0.mk (HB.out.trans (hb.mono HB.out.size)); clear hb))
      | (go_at_call 14; go_must (refine (last_st _ HR.out hl hn2 (asks_nil HR.out)).mono ?_; rintro e w4 ⟨A4, c4, rfl, _, hb⟩; rw [HL.out]; have hW := HW.out.size; replace HC := Aside0.mk (blk_below HC.out hb); replace HR := Aside0.mk (Kd.C_below HR.out hb); replace HW := Aside0.mk (HW.out.trans (hb.mono hW)); clear hW; clear hb))
      | (go_at_call 19; first | ((with_reducible refine (each_st _ HR.out hl hn2 (asks_nil HR.out)).mono ?_); rintro e w5 ⟨A5, c5, rfl, _, hb⟩; rw [HE.out]; rw [lkB_length]; have hW := HW.out.size; replace HC := Aside0.mk (blk_below HC.out hb); replace HR := Aside0.mk (Kd.C_below HR.out hb); replace HW := Aside0.mk (HW.out.trans (hb.mono hW)); clear hW; clear hb) | go_must (refine (each_any _ _ _ l _ _ noB _ (Kd.C_below HR.out (below_alloc (below_alloc (Below.refl _ _) _) _)) hl hn2 (asks_count (Kd.C_below HR.out (below_alloc (below_alloc (Below.refl _ _) _) _)) (fun W hk => rd_kp HR1.out ((HW.out.alloc HW.out.size _).alloc (by have := HW.out.size; simp; omega) _) (Nat.le_refl _) hk) (blk_alloc (blk_alloc HC.out _) _))).mono ?_; rintro e w7 ⟨v7, W7, rfl, hs, ho⟩; obtain ⟨A7, c7, rfl, _, hk7, hc7⟩ := hs.after (by have := blk_lt HC.out; simp; omega) ho; rw [HE.out] at hc7 ⊢; rw [lkB_length] at hc7 ⊢; have HN := Aside0.mk (NF.make (m7 := nth l K) (o7 := true) (v7 := (.slice A7 l.length c7)) (blk_lt HC.out) hk7 hc7); have HK := Aside0.mk hk7; clear hk7 hc7 hs ho; (try clear p0 p1 p2 q0 q1 q2 r0 r1 r2 c0); obtain ⟨p0, p1, p2, q0, q1, q2, r0, r1, r2, c0⟩ := HN.out.cells))
      | (go_at_call 16; go_must (refine (refrise_any _ _ _ l _ (Kd.C_below (rd_kp HR1.out ((HW.out.alloc HW.out.size _).alloc (by have := HW.out.size; simp; omega) _) (Nat.le_refl _) HK.out) (below_alloc (Below.refl _ _) _))).mono ?_; rintro e w8 ⟨rfl, hb⟩; rw [hrise1]; replace HN := Aside0.mk (HN.out.below hb); replace HB := Aside0.mk (none_below HB.out HW.out HK.out hb); have hcx := C_at' (Kd.C_below (Kd.C_below (rd_kp HR1.out ((HW.out.alloc HW.out.size _).alloc (by have := HW.out.size; simp; omega) _) (Nat.le_refl _) HK.out) (below_alloc (Below.refl _ _) _)) hb) K hKl; clear hb; (try clear p0 p1 p2 q0 q1 q2 r0 r1 r2 c0); obtain ⟨p0, p1, p2, q0, q1, q2, r0, r1, r2, c0⟩ := HN.out.cells)))
    go_ret
    exact ⟨rfl, HB.out⟩
  · have f1 : decide ((200 : Int) < (l.length : Int)) = true := decide_eq_true (by omega)
    go_enter Try.func8, Try.ntmps8
    go_wp2_with (go_at_call 11; refine (awake_any _).mono ?_; rintro e w1 ⟨rfl, hb⟩; replace HB := Aside0.mk (HB.out.trans (hb.mono HB.out.size)); clear hb)
    go_ret
    exact ⟨rfl, HB.out⟩
end Go.Proofs.Yteikmlgcmhgaoaa.Search
