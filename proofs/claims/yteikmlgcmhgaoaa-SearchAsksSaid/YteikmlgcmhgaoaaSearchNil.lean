/- A search that asks nothing, and one that counts how often it asks. -/
import Derived.Test.YteikmlgcmhgaoaaSearchUse
import Derived.IntWalk
import Derived.Outline
import Derived.Deep.DeepMust
namespace Go.Proofs.Yteikmlgcmhgaoaa.Search
open Go.RowKit Go.Proofs.YteikmlgcmhgaoaaW.PrintWords Go.Proofs.YteikmlgcmhgaoaaW.PrintLast Go.Proofs.YteikmlgcmhgaoaaW.PrintMore Go.Proofs.Yteikmlgcmhgaoaa.Kit Go.Proofs.Yteikmlgcmhgaoaa.Plain
set_option linter.unusedVariables false
set_option linter.unusedSimpArgs false
set_option maxHeartbeats 800000 in
set_option maxRecDepth 100000 in
theorem look_nil (g : Nat) (a : Int) (o : Bool) (v : Value) (xs : List (Int × Bool)) (m : Int) (W : World) (base : Nat) (ok : Nat → Prop) (hok : ∀ k, ok k → k ≠ g) (hfr : ∀ k, W.heap.size ≤ k → ok k) (hg : W.heap[g]? = some (foundObj a o v)) (hbg : base ≤ g)
    (hL : Kd.R Lk 38 W base ok v xs) (hlen : xs.length ≤ 1000000) :
    Calls Try.prog 24 #[.pointer (some ⟨g, 0, none⟩), .int .u64 m, .nilFunc] W fun e w' =>
      e = .returned (.bool false) ∧ ∃ v', w'.heap[g]? = some (foundObj a o v') ∧ Kd.R Lk 38 w' base ok v' (xs ++ [(m, false)]) ∧ Below base W w' ∧ KeepBut W w' g v.ownBlock := by
  have c2 : W.cell? ⟨g, 2, none⟩ = some v := blk_cell hg 2
  have z2 : W.frozen? ⟨g, 2, none⟩ = false := blk_frozen hg 2
  have HG := Aside0.mk hg
  have HL := Aside0.mk hL
  clear hg hL
  have hne : ∀ W : World, (binOp .neq 33 .nilFunc .nilFunc).run Try.prog W = .ok (.bool false) W := fun _ => rfl
  go_enter Try.func24, Try.ntmps24
  go_wp2_with ((with_reducible refine gate_builtin (b := .append) (xs := #[.tmp 19, .tmp 23]) rfl ?_); at_builtin; go_must (refine Kd.R_append Lk (w0 := W) base rfl (.tmp 19) (.tmp 23) 29 38 (.agg #[.int .u64 0, .bool false]) 16 rfl Try.underlying29 infoLk rfl (by decide) (by omega) v xs (m, false) (lkEnc (m, false)) ok (fun _ => False) rfl rfl ?hp ?hokp hfr HL.out (Below.refl _ _) ?hb (by omega) ?_; (case hp => rfl); (case hokp => exact fun k hk => hk.elim); (case hb => have := blk_lt HG.out; omega); intro v1 w1 ho hb hgr hat; obtain ⟨A1, c1, rfl⟩ := Kd.R_slice ho; have hg1 := blk_grown HG.out hgr (fun he => hok g (HL.out.1 g he.symm) rfl); have c3 : w1.cell? ⟨g, 2, none⟩ = some v := blk_cell hg1 2; have z3 : w1.frozen? ⟨g, 2, none⟩ = false := blk_frozen hg1 2; have HG1 := Aside0.mk hg1; have HO1 := Aside0.mk ho; have HB1 := Aside0.mk hb; have HK1 := Aside0.mk (KeepBut.of_grown hgr g); clear hg1 ho hb hgr hat))
  go_ret
  rw [List.length_append, List.length_singleton] at HO1
  refine ⟨rfl, _, ?_, R_set_far HO1.out hok, HB1.out.setCell hbg _, HK1.out.set_ 2 _⟩
  exact blk_set HG1.out 2 _
theorem asks_nil {A : Option Addr} {n : Nat} {l : List Int} {w : World} (hr : RdM w A n l) : Asks A n l w .nilFunc (fun _ => false) (St w) where
  two := fun W v xs h => ⟨h.h4, h.h5⟩
  rd := fun W v xs h => Kd.C_below hr h.hb
  start := fun w1 hb => St.start hb
  look := fun W A k c xs m h hk hm hl => by
    subst hk
    refine (look_nil (w.heap.size + 1) 0 false (.slice A xs.length c) xs m W w.heap.size (fun k => k ≠ w.heap.size + 1 ∧ k ≠ w.heap.size) (fun k hk => hk.1) (fun k hk => by have := blk_lt h.h5; omega) h.h5 (by omega) h.hl hl).mono ?_
    rintro e w' ⟨rfl, v', h5, hl, hb, hk⟩
    obtain ⟨A, c, rfl⟩ := Kd.R_slice hl
    rw [List.length_append, List.length_singleton] at h5 hl
    exact ⟨rfl, A, c, h.grow h5 hl hb hk⟩

/-- All but block g stays. -/
structure Kp (g : Nat) (w W : World) : Prop where
  os : W.os = w.os
  tape : W.tape = w.tape
  output : W.output = w.output
  size : w.heap.size ≤ W.heap.size
  block : ∀ k, k < w.heap.size → k ≠ g → W.heap[k]? = w.heap[k]?
theorem Kp.refl (g : Nat) (w : World) : Kp g w w := { os := rfl, tape := rfl, output := rfl, size := Nat.le_refl _, block := fun _ _ _ => rfl }
theorem Kp.trans {g : Nat} {w W W2 : World} (h : Kp g w W) (k : Kp g W W2) : Kp g w W2 :=
  { os := k.os.trans h.os, tape := k.tape.trans h.tape, output := k.output.trans h.output, size := Nat.le_trans h.size k.size, block := fun i hi hn => (k.block i (Nat.lt_of_lt_of_le hi h.size) hn).trans (h.block i hi hn) }
theorem Kp.then {g : Nat} {w W W2 : World} (h : Kp g w W) (k : Below w.heap.size W W2) : Kp g w W2 :=
  { os := k.os.trans h.os, tape := k.tape.trans h.tape, output := k.output.trans h.output, size := Nat.le_trans h.size k.size, block := fun i hi hn => (k.block i hi).trans (h.block i hi hn) }
theorem Kp.keep {g : Nat} {w W : World} (h : Kp g w W) : KeepBut w W g none := ⟨h.size, fun i hi hn _ => h.block i hi hn⟩
def cntObj (k : Nat) : Obj := .cells #[.int .i64 (k : Int)] 3 (0, 0)
theorem countc_any (m : Int) (k gc : Nat) (W : World) (hk : k ≤ 1000000) (hc : W.heap[gc]? = some (cntObj k)) :
    Calls Try.prog 21 #[.int .u64 m, .pointer (some ⟨gc, 0, none⟩)] W fun e w' => e = .returned (.bool false) ∧ w' = W.setCell ⟨gc, 0, none⟩ (.int .i64 ((k + 1 : Nat) : Int)) := by
  have c0 : W.cell? ⟨gc, 0, none⟩ = some (.int .i64 (k : Int)) := blk_cell hc 0
  have z0 : W.frozen? ⟨gc, 0, none⟩ = false := blk_frozen hc 0
  have e1 : IntKind.i64.wrap ((k : Int) + 1) = (k : Int) + 1 := IntWalk.i64_in _ (by omega)
  have e2 : ((k + 1 : Nat) : Int) = (k : Int) + 1 := by omega
  rw [e2]
  clear e2 hc
  go_enter Try.func21, Try.ntmps21
  go_wp2
  go_ret
  exact ⟨rfl, rfl⟩
/-- Where a search that counts stands. -/
structure CT (w : World) (gc : Nat) (W : World) (v : Value) (xs : List (Int × Bool)) : Prop where
  kp : Kp gc w W
  two : Two w.heap.size W v
  cnt : W.heap[gc]? = some (cntObj xs.length)
  hl : Kd.R Lk 38 W w.heap.size (fun k => k ≠ w.heap.size + 1 ∧ k ≠ w.heap.size ∧ k ≠ gc) v xs
theorem count_step {w W W1 : World} {gc : Nat} {v : Value} {xs : List (Int × Bool)} (hgc : gc < w.heap.size) (h : CT w gc W v xs) (he : W1 = W.setCell ⟨gc, 0, none⟩ (.int .i64 ((xs.length + 1 : Nat) : Int))) :
    Two w.heap.size W1 v ∧ Kd.R Lk 38 W1 w.heap.size (fun k => k ≠ w.heap.size + 1 ∧ k ≠ w.heap.size ∧ k ≠ gc) v xs ∧ Kp gc w W1 ∧ W1.heap[gc]? = some (cntObj (xs.length + 1)) := by
  subst he
  refine ⟨⟨?_, ?_⟩, R_set_far h.hl (fun k hk => hk.2.2), ?_, blk_set h.cnt 0 _⟩
  · exact (Below.heap_setCell _ _ _ _ (by show w.heap.size ≠ gc; omega)).trans h.two.h4
  · exact (Below.heap_setCell _ _ _ _ (by show w.heap.size + 1 ≠ gc; omega)).trans h.two.h5
  · have hb : Below gc W (W.setCell ⟨gc, 0, none⟩ (.int .i64 ((xs.length + 1 : Nat) : Int))) := (Below.refl gc W).setCell (by show gc ≤ gc; exact Nat.le_refl _) _
    exact h.kp.trans { os := hb.os, tape := hb.tape, output := hb.output, size := hb.size, block := fun k hk hn => Below.heap_setCell _ _ _ _ hn }
set_option maxHeartbeats 800000 in
set_option maxRecDepth 100000 in
theorem look_count (w : World) (gc : Nat) (hgc : gc < w.heap.size) (W : World) (v : Value) (xs : List (Int × Bool)) (m : Int) (h : CT w gc W v xs) (hlen : xs.length ≤ 1000000) :
    Calls Try.prog 24 #[.pointer (some ⟨w.heap.size + 1, 0, none⟩), .int .u64 m, .func (.func 21) #[] #[.pointer (some ⟨gc, 0, none⟩)]] W fun e w' =>
      e = .returned (.bool false) ∧ ∃ A c, CT w gc w' (.slice A (xs.length + 1) c) (xs ++ [(m, false)]) := by
  have HH := Aside0.mk h
  clear h
  have hne : ∀ W : World, (binOp .neq 33 (.func (.func 21) #[] #[.pointer (some ⟨gc, 0, none⟩)]) .nilFunc).run Try.prog W = .ok (.bool true) W := fun _ => rfl
  go_enter Try.func24, Try.ntmps24
  go_wp2_with (first
    | ((with_reducible refine gate_builtin (b := .append) (xs := #[.tmp 19, .tmp 23]) rfl ?_); at_builtin; go_must (refine Kd.R_append Lk (w0 := W1) w.heap.size rfl (.tmp 19) (.tmp 23) 29 38 (.agg #[.int .u64 0, .bool false]) 16 rfl Try.underlying29 infoLk rfl (by decide) (by omega) v xs (m, false) (lkEnc (m, false)) (fun k => k ≠ w.heap.size + 1 ∧ k ≠ w.heap.size ∧ k ≠ gc) (fun _ => False) rfl rfl ?hp ?hokp ?hfr HL.out (Below.refl _ _) ?hb (by omega) ?_; (case hp => rfl); (case hokp => exact fun k hk => hk.elim); (case hfr => intro k hk; have := blk_lt HT.out.h5; omega); (case hb => have := blk_lt HT.out.h5; omega); intro v1 w2 ho hb hgr hat; obtain ⟨A1, c1, rfl⟩ := Kd.R_slice ho; have hg1 := blk_grown HT.out.h5 hgr (fun he => (HL.out.1 _ he.symm).1 rfl); have hg0 := blk_grown HT.out.h4 hgr (fun he => (HL.out.1 _ he.symm).2.1 rfl); have c3 : w2.cell? ⟨w.heap.size + 1, 2, none⟩ = some v := blk_cell hg1 2; have z3 : w2.frozen? ⟨w.heap.size + 1, 2, none⟩ = false := blk_frozen hg1 2; have HG0 := Aside0.mk hg0; have HG1 := Aside0.mk hg1; have HO1 := Aside0.mk ho; have HB1 := Aside0.mk hb; clear hg0 hg1 ho hb hgr hat))
    | (go_at_call 21; go_must (refine (countc_any m xs.length gc _ hlen HH.out.cnt).mono ?_; rintro e w1 ⟨rfl, he⟩; obtain ⟨W1, hW1⟩ : ∃ W1, W1 = w1 := ⟨_, rfl⟩; rw [← hW1]; have HS := Aside0.mk (count_step hgc HH.out (hW1.trans he)); clear he hW1 w1; have HT := Aside0.mk HS.out.1; have HL := Aside0.mk HS.out.2.1; have c2 : W1.cell? ⟨w.heap.size + 1, 2, none⟩ = some v := blk_cell HT.out.h5 2; have z2 : W1.frozen? ⟨w.heap.size + 1, 2, none⟩ = false := blk_frozen HT.out.h5 2)))
  go_ret
  rw [List.length_append, List.length_singleton] at HO1
  refine ⟨rfl, A1, c1, (HS.out.2.2.1.then HB1.out).then ((Below.refl _ _).setCell (by show w.heap.size ≤ w.heap.size + 1; omega) _), ⟨?_, blk_set HG1.out 2 _⟩, ?_, R_set_far HO1.out (fun k hk => hk.1)⟩
  · exact (Below.heap_setCell _ _ _ _ (by show w.heap.size ≠ w.heap.size + 1; omega)).trans HG0.out
  · rw [List.length_append, List.length_singleton]
    exact (Below.heap_setCell _ _ _ _ (by show gc ≠ w.heap.size + 1; omega)).trans ((HB1.out.block gc hgc).trans HS.out.2.2.2)
theorem asks_count {A : Option Addr} {n : Nat} {l : List Int} {w : World} {gc : Nat} (hr : RdM w A n l) (hrd : ∀ W, Kp gc w W → RdM W A n l) (hc : w.heap[gc]? = some (cntObj 0)) :
    Asks A n l w (.func (.func 21) #[] #[.pointer (some ⟨gc, 0, none⟩)]) (fun _ => false) (CT w gc) where
  two := fun W v xs h => h.two
  rd := fun W v xs h => hrd W h.kp
  start := fun w1 hb => by
    have hgc := blk_lt hc
    obtain ⟨h4, h5, h⟩ := two_new hb
    exact ⟨(Kp.refl _ _).then h, ⟨h4, h5⟩, (h.block gc hgc).trans hc, Kd.R_nil _ _ _ _ _⟩
  look := fun W A k c xs m h hk hm hl => by subst hk; exact look_count w gc (blk_lt hc) W _ xs m h hl
/-- After a search that counts: what it found, how often it asked, what stays. -/
theorem CT.after {w W w' : World} {gc : Nat} {v : Value} {xs : List (Int × Bool)} (hgc : gc < w.heap.size) (hs : CT w gc W v xs) (h : Only w.heap.size W w') :
    ∃ A c, v = .slice A xs.length c ∧ Kd.C Lk w' A xs.length xs ∧ Kp gc w w' ∧ w'.heap[gc]? = some (cntObj xs.length) := by
  have h2 := Kd.R_step hs.hl (fun k hk _ => h.block k hk.2.1 hk.1)
  obtain ⟨A, c, e, _, hc⟩ := Kd.R_reads h2
  refine ⟨A, c, e, hc, { os := h.os.trans hs.kp.os, tape := h.tape.trans hs.kp.tape, output := h.output.trans hs.kp.output, size := by have := h.size; have := hs.kp.size; omega, block := fun k hk hn => (h.block k (by omega) (by omega)).trans (hs.kp.block k hk hn) }, (h.block gc (by omega) (by omega)).trans hs.cnt⟩
/-- A slice that was there before the block g came is read, whatever is written into g. -/
theorem rd_kp {w0 w W : World} {A : Option Addr} {n : Nat} {l : List Int} {g : Nat} (h : RdM w0 A n l) (hb : Below w0.heap.size w0 w) (hg : w0.heap.size ≤ g) (hk : Kp g w W) : RdM W A n l := by
  refine Kd.C_foot_ne (g := g) (fun h => h) (Kd.C_below h hb) (fun ad he hn => ?_) W hk.keep
  subst he
  have := Kd.C_lt h hn (by decide)
  omega
end Go.Proofs.Yteikmlgcmhgaoaa.Search
