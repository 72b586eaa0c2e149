/- search.Last and search.Each, asked by a table and from a moment on; the document's example; two statements. -/
import Derived.Test.YteikmlgcmhgaoaaSearchSame
import Derived.IntWalk
import Derived.Outline
import Derived.Deep.DeepMust
namespace Go.Proofs.Yteikmlgcmhgaoaa.Search
open Go.RowKit Go.Proofs.YteikmlgcmhgaoaaW.PrintWords Go.Proofs.YteikmlgcmhgaoaaW.PrintLast Go.Proofs.YteikmlgcmhgaoaaW.PrintMore Go.Proofs.Yteikmlgcmhgaoaa.Kit Go.Proofs.Yteikmlgcmhgaoaa.Plain
set_option linter.unusedVariables false
set_option linter.unusedSimpArgs false
theorem Only.below {w W w' : World} (hb : Below w.heap.size w W) (h : Only w.heap.size W w') : Below w.heap.size w w' :=
  ⟨h.os.trans hb.os, h.tape.trans hb.tape, h.output.trans hb.output, by have := h.size; have := hb.size; omega, fun k hk => (h.block k (by omega) (by omega)).trans (hb.block k hk)⟩
theorem St.after {w W w' : World} {v : Value} {xs : List (Int × Bool)} (hs : St w W v xs) (h : Only w.heap.size W w') :
    ∃ A c, v = .slice A xs.length c ∧ Kd.C Lk w' A xs.length xs ∧ Below w.heap.size w w' := by
  have h2 := Kd.R_step hs.hl (fun k hk _ => h.block k hk.2 hk.1)
  obtain ⟨A, c, e, _, hc⟩ := Kd.R_reads h2
  exact ⟨A, c, e, hc, h.below hs.hb⟩
theorem asks_by {A : Option Addr} {n : Nat} {l : List Int} {w : World} {tb : Int} {gt : Nat} (hr : RdM w A n l) (ht : 0 ≤ tb) (hc : w.cell? ⟨gt, 0, none⟩ = some (.int .u64 tb)) :
    Asks A n l w (.func (.func 25) #[] #[.pointer (some ⟨gt, 0, none⟩)]) (badT tb) (St w) where
  two := fun W v xs h => ⟨h.h4, h.h5⟩
  rd := fun W v xs h => Kd.C_below hr h.hb
  start := fun w1 hb => St.start hb
  look := fun W A k c xs m h hk hm hl => by subst hk; exact lookst_by h m tb gt ht hm hc hl
theorem asks_from {A : Option Addr} {n : Nat} {l : List Int} {w : World} {tb : Int} {gt : Nat} (hr : RdM w A n l) (hc : w.cell? ⟨gt, 0, none⟩ = some (.int .u64 tb)) :
    Asks A n l w (.func (.func 26) #[] #[.pointer (some ⟨gt, 0, none⟩)]) (badF tb) (St w) where
  two := fun W v xs h => ⟨h.h4, h.h5⟩
  rd := fun W v xs h => Kd.C_below hr h.hb
  start := fun w1 hb => St.start hb
  look := fun W A k c xs m h hk hm hl => by subst hk; exact lookst_from h m tb gt hc hl
/-- What is found, as a value; its looks read. -/
def Tells (e : Ending) (w w' : World) (F : Fnd) : Prop := ∃ A c, e = .returned (.agg #[.int .u64 F.m, .bool F.ok, .slice A F.l.length c]) ∧ Kd.C Lk w' A F.l.length F.l ∧ Below w.heap.size w w'
theorem last_st {A : Option Addr} {n : Nat} (c : Nat) {l : List Int} {w : World} {fv : Value} {bad : Int → Bool} (hr : RdM w A n l) (hl : ∀ x ∈ l, 0 ≤ x) (hn : n ≤ 100000) (hT : Asks A n l w fv bad (St w)) :
    Calls Try.prog 14 #[.slice A n c, fv] w fun e w' => Tells e w w' (lastS l bad) := by
  refine (last_any A n c l w fv bad _ hr hl hn hT).mono ?_
  rintro e w' ⟨v, W, rfl, hs, ho⟩
  obtain ⟨A, c, rfl, h1, h2⟩ := hs.after ho
  exact ⟨A, c, rfl, h1, h2⟩
theorem each_st {A : Option Addr} {n : Nat} (c : Nat) {l : List Int} {w : World} {fv : Value} {bad : Int → Bool} (hr : RdM w A n l) (hl : ∀ x ∈ l, 0 ≤ x) (hn : n ≤ 100000) (hT : Asks A n l w fv bad (St w)) :
    Calls Try.prog 19 #[.slice A n c, fv] w fun e w' => Tells e w w' (eachS l bad) := by
  refine (each_any A n c l w fv bad _ hr hl hn hT).mono ?_
  rintro e w' ⟨v, W, rfl, hs, ho⟩
  obtain ⟨A, c, rfl, h1, h2⟩ := hs.after ho
  exact ⟨A, c, rfl, h1, h2⟩
/-- A new block of whole numbers, read. -/
theorem C_new (k : IntKind) (w : World) (e : Nat) (xs : List Int) (hm : xs.length ≤ 9223372036854775807) :
    Kd.C (Kd.int k) (w.alloc (.cells (xs.map (Value.int k)).toArray e)) (some ⟨w.heap.size, 0, none⟩) xs.length xs := by
  have hh : (w.alloc (.cells (xs.map (Value.int k)).toArray e)).heap[w.heap.size]? = some (.cells (xs.map (Value.int k)).toArray e (0, 0)) := blk_new w _
  refine ⟨rfl, hm, fun _ => ⟨_, rfl, fun j p hj => ⟨[.int k p], rfl, rfl, fun i u hu => ?_⟩⟩⟩
  obtain ⟨rfl, rfl⟩ : i = 0 ∧ u = .int k p := by
    cases i with
    | zero => simpa using hu.symm
    | succ i => simp at hu
  show (w.alloc _).cell? (Addr.add ⟨w.heap.size, 0, none⟩ (j * 1 + 0)) = _
  rw [add_plain, blk_cell hh]
  simp [hj]
theorem C_flat' {α : Type} {sz : Nat} {enc : α → List Value} {hl : ∀ x, (enc x).length = sz} {h1 : ∀ x, ∀ u ∈ enc x, u.oneCell' = true} {w : World} {ad : Addr} {n : Nat} {xs : List α} (h : Kd.C (flat sz enc hl h1) w (some ad) n xs) (z : α) (i : Nat) (hi : i < n) :
    ∀ j u, (enc (xs.getD i z))[j]? = some u → w.cell? (ad.add (i * sz + j)) = some u := by
  obtain ⟨ad', he, hc⟩ := C_flat h z i hi
  injection he with he
  subst he
  exact hc
theorem awake_says : lastS [1, 2, 3, 4, 5] (badF 4) = ⟨3, true, [(5, true), (1, false), (3, false), (4, true)]⟩ := by kernel_rfl

set_option maxHeartbeats 1600000 in
set_option maxRecDepth 100000 in
theorem awake_any (w : World) : Calls Try.prog 11 #[] w fun e w' => e = .returned (.bool true) ∧ Below w.heap.size w w' := by
  have HB := Aside0.mk (Below.refl w.heap.size w)
  go_enter Try.func11, Try.ntmps11
  go_wp2_with (first
    | (go_at_call 20; go_must (refine (from_any 4 _).mono ?_; rintro e w2 ⟨g, rfl, hc, _, hb⟩; have HR := Aside0.mk (Kd.C_below (C_new .u64 w 23 [1, 2, 3, 4, 5] (by decide)) hb); replace HB := Aside0.mk (HB.out.alloc HB.out.size (.cells #[.int .u64 1, .int .u64 2, .int .u64 3, .int .u64 4, .int .u64 5] 23)); have HC := Aside0.mk hc; replace HB := Aside0.mk (HB.out.trans (hb.mono HB.out.size)); clear hb hc))
    | (go_at_call 14; go_must (refine (last_st _ HR.out (by decide) (by decide) (asks_from HR.out HC.out)).mono ?_; rintro e w3 ⟨A3, c3, rfl, hc3, hb⟩; rw [awake_says] at hc3 ⊢; replace HB := Aside0.mk (HB.out.trans (hb.mono HB.out.size)); clear hb; have HC3 := Aside0.mk hc3; clear hc3; obtain ⟨a3, rfl, d2⟩ := C_flat HC3.out (0, false) 2 (by decide); have d3 := C_flat' HC3.out (0, false) 3 (by decide); clear HC3; obtain ⟨W4, hW4⟩ : ∃ W4, W4 = w3.alloc (.cells #[.int .u64 3, .bool true, .slice (some a3) 4 c3] 31) := ⟨_, rfl⟩; have hb4 : Below w3.heap.size w3 W4 := (by rw [hW4]; exact below_alloc (Below.refl _ _) _); have x20 : W4.cell? ⟨a3.block, a3.off + 4, none⟩ = some (.int .u64 3) := pw_cell_below hb4 (d2 0 _ rfl); have x21 : W4.cell? ⟨a3.block, a3.off + 5, none⟩ = some (.bool false) := pw_cell_below hb4 (d2 1 _ rfl); have x30 : W4.cell? ⟨a3.block, a3.off + 6, none⟩ = some (.int .u64 4) := pw_cell_below hb4 (d3 0 _ rfl); have x31 : W4.cell? ⟨a3.block, a3.off + 7, none⟩ = some (.bool true) := pw_cell_below hb4 (d3 1 _ rfl); rw [hW4] at x20 x21 x30 x31; clear d2 d3 hb4 hW4)))
  go_ret
  exact ⟨rfl, HB.out.alloc HB.out.size _⟩

set_option maxHeartbeats 1600000 in
set_option maxRecDepth 100000 in
theorem slast_any (A : Option Addr) (n c : Nat) (l : List Int) (tb : Int) (w : World) (hr : RdM w A n l) (hl : ∀ x ∈ l, 0 ≤ x) (ht : 0 ≤ tb) :
    Calls Try.prog 3 #[.slice A n c, .int .u64 tb] w fun e w' => e = .returned (.bool true) ∧ Below w.heap.size w w' := by
  have HB := Aside0.mk (Below.refl w.heap.size w)
  have HR := Aside0.mk hr
  clear hr
  by_cases hn : n ≤ 200
  · have f1 : decide ((200 : Int) < (n : Int)) = false := decide_eq_false (by omega)
    have hn2 : n ≤ 100000 := by omega
    go_enter Try.func3, Try.ntmps3
    go_wp2_with (first
      | (go_at_call 11; refine (awake_any _).mono ?_; rintro e w1 ⟨rfl, hb⟩; replace HR := Aside0.mk (Kd.C_below HR.out hb); replace HB := Aside0.mk (HB.out.trans (hb.mono HB.out.size)); clear hb)
      | (go_at_call 12; refine (reflast_any _ _ _ l tb _ HR.out hl hn2 ht).mono ?_; rintro e w2 ⟨v2, rfl, hv, hb⟩; obtain ⟨A2, c2, rfl, _, hc2⟩ := Kd.R_reads hv; have H2 := Aside0.mk hc2; replace HR := Aside0.mk (Kd.C_below HR.out hb); replace HB := Aside0.mk (HB.out.trans (hb.mono HB.out.size)); clear hb hv hc2)
      | (go_at_call 15; refine (by_any tb _).mono ?_; rintro e w3 ⟨g, rfl, hc, _, hb⟩; have HC := Aside0.mk hc; replace HR := Aside0.mk (Kd.C_below HR.out hb); replace H2 := Aside0.mk (Kd.C_below H2.out hb); replace HB := Aside0.mk (HB.out.trans (hb.mono HB.out.size)); clear hb hc)
      | (go_at_call 14; refine (last_st _ HR.out hl hn2 (asks_by HR.out ht HC.out)).mono ?_; rintro e w4 ⟨A4, c4, rfl, hc4, hb⟩; have H4 := Aside0.mk hc4; replace H2 := Aside0.mk (Kd.C_below H2.out hb); replace HB := Aside0.mk (HB.out.trans (hb.mono HB.out.size)); clear hb hc4)
      | (go_at_call 13; refine (same_any _ _ _ _ _ _ _ _ _ _ H4.out H2.out).mono ?_; rintro e w5 ⟨rfl, hb⟩; replace HB := Aside0.mk (HB.out.trans (hb.mono HB.out.size)); clear hb))
    go_ret
    exact ⟨rfl, HB.out⟩
  · have f1 : decide ((200 : Int) < (n : Int)) = true := decide_eq_true (by omega)
    go_enter Try.func3, Try.ntmps3
    go_wp2_with (go_at_call 11; refine (awake_any _).mono ?_; rintro e w1 ⟨rfl, hb⟩; replace HB := Aside0.mk (HB.out.trans (hb.mono HB.out.size)); clear hb)
    go_ret
    exact ⟨rfl, HB.out⟩

set_option maxHeartbeats 1600000 in
set_option maxRecDepth 100000 in
theorem seach_any (A : Option Addr) (n c : Nat) (l : List Int) (tb : Int) (w : World) (hr : RdM w A n l) (hl : ∀ x ∈ l, 0 ≤ x) (ht : 0 ≤ tb) :
    Calls Try.prog 6 #[.slice A n c, .int .u64 tb] w fun e w' => e = .returned (.bool true) ∧ Below w.heap.size w w' := by
  have HB := Aside0.mk (Below.refl w.heap.size w)
  have HR := Aside0.mk hr
  clear hr
  by_cases hn : n ≤ 200
  · have f1 : decide ((200 : Int) < (n : Int)) = false := decide_eq_false (by omega)
    have hn2 : n ≤ 100000 := by omega
    go_enter Try.func6, Try.ntmps6
    go_wp2_with (first
      | (go_at_call 11; refine (awake_any _).mono ?_; rintro e w1 ⟨rfl, hb⟩; replace HR := Aside0.mk (Kd.C_below HR.out hb); replace HB := Aside0.mk (HB.out.trans (hb.mono HB.out.size)); clear hb)
      | (go_at_call 18; refine (refeach_any _ _ _ l tb _ HR.out hl hn2 ht).mono ?_; rintro e w2 ⟨v2, rfl, hv, hb⟩; obtain ⟨A2, c2, rfl, _, hc2⟩ := Kd.R_reads hv; have H2 := Aside0.mk hc2; replace HR := Aside0.mk (Kd.C_below HR.out hb); replace HB := Aside0.mk (HB.out.trans (hb.mono HB.out.size)); clear hb hv hc2)
      | (go_at_call 15; refine (by_any tb _).mono ?_; rintro e w3 ⟨g, rfl, hc, _, hb⟩; have HC := Aside0.mk hc; replace HR := Aside0.mk (Kd.C_below HR.out hb); replace H2 := Aside0.mk (Kd.C_below H2.out hb); replace HB := Aside0.mk (HB.out.trans (hb.mono HB.out.size)); clear hb hc)
      | (go_at_call 19; refine (each_st _ HR.out hl hn2 (asks_by HR.out ht HC.out)).mono ?_; rintro e w4 ⟨A4, c4, rfl, hc4, hb⟩; have H4 := Aside0.mk hc4; replace H2 := Aside0.mk (Kd.C_below H2.out hb); replace HB := Aside0.mk (HB.out.trans (hb.mono HB.out.size)); clear hb hc4)
      | (go_at_call 13; refine (same_any _ _ _ _ _ _ _ _ _ _ H4.out H2.out).mono ?_; rintro e w5 ⟨rfl, hb⟩; replace HB := Aside0.mk (HB.out.trans (hb.mono HB.out.size)); clear hb))
    go_ret
    exact ⟨rfl, HB.out⟩
  · have f1 : decide ((200 : Int) < (n : Int)) = true := decide_eq_true (by omega)
    go_enter Try.func6, Try.ntmps6
    go_wp2_with (go_at_call 11; refine (awake_any _).mono ?_; rintro e w1 ⟨rfl, hb⟩; replace HB := Aside0.mk (HB.out.trans (hb.mono HB.out.size)); clear hb)
    go_ret
    exact ⟨rfl, HB.out⟩
end Go.Proofs.Yteikmlgcmhgaoaa.Search
