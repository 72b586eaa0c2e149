/- A search whose closure keeps what it was asked. -/
import Derived.Test.YteikmlgcmhgaoaaSearchNil
import Derived.Test.YteikmlgcmhgaoaaU64
import Derived.IntWalk
import Derived.Outline
import Derived.Deep.DeepMust
namespace Go.Proofs.Yteikmlgcmhgaoaa.Search
open Go.RowKit Go.Proofs.YteikmlgcmhgaoaaW.PrintWords Go.Proofs.YteikmlgcmhgaoaaW.PrintLast Go.Proofs.YteikmlgcmhgaoaaW.PrintMore Go.Proofs.Yteikmlgcmhgaoaa.Kit Go.Proofs.Yteikmlgcmhgaoaa.Plain
set_option linter.unusedVariables false
set_option linter.unusedSimpArgs false
theorem cell_far {w : World} {p q : Addr} {u : Value} (h : q.block ≠ p.block) : (w.setCell p u).cell? q = w.cell? q := by
  unfold World.cell?
  rw [Below.heap_setCell w p u q.block h]
def askObj (v : Value) : Obj := .cells #[v] 22 (0, 0)
set_option maxHeartbeats 800000 in
set_option maxRecDepth 100000 in
theorem askc_any (m tb : Int) (ga gt : Nat) (A : Option Addr) (k c : Nat) (xs : List Int) (W : World) (base : Nat) (ok : Nat → Prop) (hk : xs.length ≤ 1000000) (ht : 0 ≤ tb) (hm : 0 ≤ m) (hfr : ∀ k, W.heap.size ≤ k → ok k) (hga : ga < base) (hgt : gt < base) (hne : gt ≠ ga) (hbs : base ≤ W.heap.size)
    (hoa : ∀ k, ok k → k ≠ ga)
    (hc : W.heap[ga]? = some (askObj (.slice A k c))) (hR : Kd.R (Kd.int .u64) 23 W base ok (.slice A k c) xs) (hct : W.cell? ⟨gt, 0, none⟩ = some (.int .u64 tb)) :
    Calls Try.prog 22 #[.int .u64 m, .pointer (some ⟨ga, 0, none⟩), .pointer (some ⟨gt, 0, none⟩)] W fun e w' => e = .returned (.bool (badT tb m)) ∧
      ∃ w1 A1 c1, w' = w1.setCell ⟨ga, 0, none⟩ (.slice A1 (xs.length + 1) c1) ∧ Kd.R (Kd.int .u64) 23 w1 base ok (.slice A1 (xs.length + 1) c1) (xs ++ [m]) ∧ Below base W w1 ∧ W.grownBy w1 (Value.slice A k c).ownBlock ∧
        ((Value.slice A1 (xs.length + 1) c1).ownBlock = (Value.slice A k c).ownBlock ∨ ∃ b, (Value.slice A1 (xs.length + 1) c1).ownBlock = some b ∧ W.heap.size ≤ b) := by
  have c0 : W.cell? ⟨ga, 0, none⟩ = some (.slice A k c) := blk_cell hc 0
  have HC := Aside0.mk hc
  have HR := Aside0.mk hR
  have HT := Aside0.mk hct
  clear hc hR hct
  go_enter Try.func22, Try.ntmps22
  go_wp2_with (first
    | ((with_reducible refine gate_builtin (b := .append) (xs := #[.tmp 5, .tmp 7]) rfl ?_); at_builtin; go_must (refine Kd.R_append (Kd.int .u64) (w0 := W) base rfl (.tmp 5) (.tmp 7) 22 23 (.int .u64 0) 8 rfl Try.underlying22 infoU64 rfl (by decide) (by omega) (.slice A k c) xs m [.int .u64 m] ok (fun _ => False) rfl rfl ?hp ?hokp hfr HR.out (Below.refl _ _) hbs (by omega) ?_; (case hp => rfl); (case hokp => exact fun k hk => hk.elim); intro v1 w1 ho hb hgr hat; obtain ⟨A1, c1, rfl⟩ := Kd.R_slice ho; rw [List.length_append, List.length_singleton] at ho hat; have ha1 : w1.heap[ga]? = some (askObj (.slice A k c)) := (hb.block ga hga).trans HC.out; have c1x : w1.cell? ⟨ga, 0, none⟩ = some (.slice A k c) := blk_cell ha1 0; have z1 : w1.frozen? ⟨ga, 0, none⟩ = false := blk_frozen ha1 0; have HO := Aside0.mk ho; have HB := Aside0.mk hb; have HG := Aside0.mk hgr; have HA := Aside0.mk hat; have ct : (w1.setCell ⟨ga, 0, none⟩ (.slice A1 (xs.length + 1) c1)).cell? ⟨gt, 0, none⟩ = some (.int .u64 tb) := (cell_far (by show gt ≠ ga; exact hne)).trans ((hb.cell (by show gt < base; exact hgt)).trans HT.out); clear ho hb hgr hat ha1))
    | (go_at_call 17; refine (bad_any tb m _ ht hm).mono ?_; rintro e w2 ⟨rfl, rfl⟩))
  go_ret
  exact ⟨rfl, w1, A1, c1, rfl, HO.out, HB.out, HG.out, HA.out⟩
/-- A row of one's own stays where only another block and another row have been written. -/
theorem R_apart {α : Type} {d : Kd α} (hM : ∀ W W' b ok ok' x cs, d.M W b ok x cs → d.M W' b ok' x cs) {e base g : Nat} {ok : Nat → Prop} {W w1 : World} {v : Value} {xs : List α} {row : Option Nat} (h : Kd.R d e W base ok v xs) (k : KeepBut W w1 g row) (hok : ∀ k, ok k → k ≠ g)
    (hr : v.ownBlock = none ∨ v.ownBlock ≠ row) : Kd.R d e w1 base ok v xs := by
  obtain ⟨h0, inner, hown, hrep⟩ := h
  exact ⟨h0, inner, k.own hown (fun he => hok g (h0 g he) rfl) hr, hrep.imp_ (fun p c hp => hM _ _ _ _ _ _ _ hp)⟩
theorem R_own_lt {α : Type} {d : Kd α} {e base : Nat} {ok : Nat → Prop} {W : World} {v : Value} {xs : List α} (h : Kd.R d e W base ok v xs) : ∀ b, v.ownBlock = some b → b < W.heap.size := by
  obtain ⟨h0, inner, ⟨_, h2⟩, _⟩ := h
  intro b hb
  rcases h2 with h2 | ⟨b', cap, cur, rfl, _, hh, _⟩
  · rw [h2.1] at hb; simp [Value.ownBlock] at hb
  · have : b' = b := by simpa [Value.ownBlock] using hb
    rw [← this]; exact blk_lt hh
abbrev okA (w : World) (ga : Nat) : Nat → Prop := fun k => k ≠ w.heap.size + 1 ∧ k ≠ w.heap.size ∧ k ≠ ga
/-- Where a search stands that is asked by a closure that keeps. -/
structure AT (w : World) (ga gt : Nat) (tb : Int) (W : World) (v : Value) (xs : List (Int × Bool)) : Prop where
  kp : Kp ga w W
  two : Two w.heap.size W v
  ask : ∃ A k c, W.heap[ga]? = some (askObj (.slice A k c)) ∧ Kd.R (Kd.int .u64) 23 W w.heap.size (okA w ga) (.slice A k c) (xs.map (·.1)) ∧ ((Value.slice A k c).ownBlock = none ∨ (Value.slice A k c).ownBlock ≠ v.ownBlock)
  hl : Kd.R Lk 38 W w.heap.size (okA w ga) v xs
theorem ask_step {w W w1 w2 : World} {ga gt k c : Nat} {tb m : Int} {v : Value} {xs : List (Int × Bool)} {A A1 : Option Addr} {k1 c1 : Nat} (hga : ga < w.heap.size) (h : AT w ga gt tb W v xs)
    (hc : W.heap[ga]? = some (askObj (.slice A k c))) (hR : Kd.R (Kd.int .u64) 23 W w.heap.size (okA w ga) (.slice A k c) (xs.map (·.1))) (hap : (Value.slice A k c).ownBlock = none ∨ (Value.slice A k c).ownBlock ≠ v.ownBlock)
    (hw : w2 = w1.setCell ⟨ga, 0, none⟩ (.slice A1 k1 c1)) (hR1 : Kd.R (Kd.int .u64) 23 w1 w.heap.size (okA w ga) (.slice A1 k1 c1) (xs.map (·.1) ++ [m])) (hb : Below w.heap.size W w1) (hgr : W.grownBy w1 (Value.slice A k c).ownBlock)
    (hat : (Value.slice A1 k1 c1).ownBlock = (Value.slice A k c).ownBlock ∨ ∃ b, (Value.slice A1 k1 c1).ownBlock = some b ∧ W.heap.size ≤ b) :
    Kp ga w w2 ∧ Two w.heap.size w2 v ∧ w2.heap[ga]? = some (askObj (.slice A1 k1 c1)) ∧ Kd.R (Kd.int .u64) 23 w2 w.heap.size (okA w ga) (.slice A1 k1 c1) (xs.map (·.1) ++ [m]) ∧ ((Value.slice A1 k1 c1).ownBlock = none ∨ (Value.slice A1 k1 c1).ownBlock ≠ v.ownBlock) ∧
      Kd.R Lk 38 w2 w.heap.size (okA w ga) v xs := by
  subst hw
  have hs : Below ga w1 (w1.setCell ⟨ga, 0, none⟩ (.slice A1 k1 c1)) := (Below.refl ga w1).setCell (by show ga ≤ ga; exact Nat.le_refl _) _
  have far : ∀ k, k ≠ ga → (w1.setCell ⟨ga, 0, none⟩ (.slice A1 k1 c1)).heap[k]? = w1.heap[k]? := fun k hk => Below.heap_setCell _ _ _ _ hk
  refine ⟨(h.kp.then hb).trans { os := hs.os, tape := hs.tape, output := hs.output, size := hs.size, block := fun k hk hn => far k hn }, ⟨?_, ?_⟩, ?_, R_set_far hR1 (fun k hk => hk.2.2), ?_, ?_⟩
  · exact (far _ (by omega)).trans (blk_grown h.two.h4 hgr (fun he => (hR.1 _ he.symm).2.1 rfl))
  · exact (far _ (by omega)).trans (blk_grown h.two.h5 hgr (fun he => (hR.1 _ he.symm).1 rfl))
  · exact blk_set ((hb.block ga hga).trans hc) 0 _
  · rcases hat with hat | ⟨b, hb1, hb2⟩
    · rw [hat]; exact hap
    · refine .inr (fun he => ?_)
      have := R_own_lt h.hl b (by rw [← he, hb1])
      omega
  · refine R_set_far (R_apart (fun _ _ _ _ _ _ _ hp => hp) h.hl (KeepBut.of_grown hgr ga) (fun k hk => hk.2.2) ?_) (fun k hk => hk.2.2)
    rcases hap with hap | hap
    · by_cases hv : v.ownBlock = none
      · exact .inl hv
      · exact .inr (by rw [hap]; exact hv)
    · exact .inr (fun he => hap he.symm)
set_option maxHeartbeats 800000 in
set_option maxRecDepth 100000 in
theorem look_ask (w : World) (ga gt : Nat) (tb : Int) (hga : ga < w.heap.size) (hgt : gt < w.heap.size) (hne2 : gt ≠ ga) (htb : 0 ≤ tb) (hct : w.cell? ⟨gt, 0, none⟩ = some (.int .u64 tb)) (W : World) (v : Value) (xs : List (Int × Bool)) (m : Int) (hm : 0 ≤ m) (h : AT w ga gt tb W v xs) (hlen : xs.length ≤ 1000000) :
    Calls Try.prog 24 #[.pointer (some ⟨w.heap.size + 1, 0, none⟩), .int .u64 m, .func (.func 22) #[] #[.pointer (some ⟨ga, 0, none⟩), .pointer (some ⟨gt, 0, none⟩)]] W fun e w' =>
      e = .returned (.bool (badT tb m)) ∧ ∃ A c, AT w ga gt tb w' (.slice A (xs.length + 1) c) (xs ++ [(m, badT tb m)]) := by
  obtain ⟨Aa, ka, ca, hca, hRa, hapa⟩ := h.ask
  have HH := Aside0.mk h
  have HCA := Aside0.mk hca
  have HRA := Aside0.mk hRa
  have HAP := Aside0.mk hapa
  have hsz : w.heap.size ≤ W.heap.size := h.kp.size
  have htW : W.cell? ⟨gt, 0, none⟩ = some (.int .u64 tb) := by
    rw [← hct]; unfold World.cell?; rw [h.kp.block gt hgt hne2]
  have HTW := Aside0.mk htW
  clear h hca hRa hapa hct htW
  have hne : ∀ W : World, (binOp .neq 33 (.func (.func 22) #[] #[.pointer (some ⟨ga, 0, none⟩), .pointer (some ⟨gt, 0, none⟩)]) .nilFunc).run Try.prog W = .ok (.bool true) W := fun _ => rfl
  go_enter Try.func24, Try.ntmps24
  go_wp2_with (first
    | ((with_reducible refine gate_builtin (b := .append) (xs := #[.tmp 19, .tmp 23]) rfl ?_); at_builtin; go_must (refine Kd.R_append Lk (w0 := W2) w.heap.size rfl (.tmp 19) (.tmp 23) 29 38 (.agg #[.int .u64 0, .bool false]) 16 rfl Try.underlying29 infoLk rfl (by decide) (by omega) v xs (m, badT tb m) (lkEnc (m, badT tb m)) (okA w ga) (fun _ => False) rfl rfl ?hp ?hokp ?hfr HL.out (Below.refl _ _) ?hb (by omega) ?_; (case hp => rfl); (case hokp => exact fun k hk => hk.elim); (case hfr => intro k hk; have := blk_lt HT.out.h5; show k ≠ w.heap.size + 1 ∧ k ≠ w.heap.size ∧ k ≠ ga; omega); (case hb => have := blk_lt HT.out.h5; omega); intro v1 w3 ho hb hgr hat; obtain ⟨A1, c1, rfl⟩ := Kd.R_slice ho; have hg1 := blk_grown HT.out.h5 hgr (fun he => (HL.out.1 _ he.symm).1 rfl); have hg0 := blk_grown HT.out.h4 hgr (fun he => (HL.out.1 _ he.symm).2.1 rfl); have c3 : w3.cell? ⟨w.heap.size + 1, 2, none⟩ = some v := blk_cell hg1 2; have z3 : w3.frozen? ⟨w.heap.size + 1, 2, none⟩ = false := blk_frozen hg1 2; have HG0 := Aside0.mk hg0; have HG1 := Aside0.mk hg1; have HO1 := Aside0.mk ho; have HB1 := Aside0.mk hb; have HG := Aside0.mk hgr; have HA := Aside0.mk hat; clear hg0 hg1 ho hb hgr hat))
    | (go_at_call 22; go_must (refine (askc_any m tb ga gt Aa ka ca (xs.map (·.1)) _ w.heap.size (okA w ga) (by rw [List.length_map]; exact hlen) htb hm (fun k hk => by show k ≠ w.heap.size + 1 ∧ k ≠ w.heap.size ∧ k ≠ ga; have := blk_lt HH.out.two.h5; omega) hga hgt hne2 hsz (fun k hk => hk.2.2) HCA.out HRA.out HTW.out).mono ?_; rintro e w1 ⟨rfl, w1', Ab, cb, he, hR1, hb1, hg1, hat1⟩; obtain ⟨W2, hW2⟩ : ∃ W2, W2 = w1 := ⟨_, rfl⟩; rw [← hW2]; have HS := Aside0.mk (ask_step hga HH.out HCA.out HRA.out HAP.out (hW2.trans he) hR1 hb1 hg1 hat1); clear he hW2 w1 hR1 hb1 hg1 hat1; have HT := Aside0.mk HS.out.2.1; have HL := Aside0.mk HS.out.2.2.2.2.2; have c2 : W2.cell? ⟨w.heap.size + 1, 2, none⟩ = some v := blk_cell HT.out.h5 2; have z2 : W2.frozen? ⟨w.heap.size + 1, 2, none⟩ = false := blk_frozen HT.out.h5 2)))
  go_ret
  rw [List.length_append, List.length_singleton] at HO1 HA
  obtain ⟨s1, s2, s3, s4, s5, s6⟩ := HS.out
  have far : ∀ k (u : Value), k ≠ w.heap.size + 1 → (w3.setCell ⟨w.heap.size + 1, 2, none⟩ u).heap[k]? = w3.heap[k]? := fun k u hk => Below.heap_setCell _ _ _ _ hk
  refine ⟨rfl, A1, c1, (s1.then HB1.out).then ((Below.refl _ _).setCell (by show w.heap.size ≤ w.heap.size + 1; omega) _), ⟨(far _ _ (by omega)).trans HG0.out, blk_set HG1.out 2 _⟩, ⟨Ab, _, cb, (far _ _ (by omega)).trans ((HB1.out.block ga hga).trans s3), ?_, ?_⟩, R_set_far HO1.out (fun k hk => hk.1)⟩
  · rw [List.map_append]
    refine R_set_far (R_apart (fun _ _ _ _ _ _ _ hp => hp) s4 (KeepBut.of_grown HG.out ga) (fun k hk => hk.2.2) s5) (fun k hk => hk.1)
  · rcases HA.out with hat | ⟨b, hb1, hb2⟩
    · rw [hat]; exact s5
    · refine .inr (fun he => ?_)
      have := R_own_lt s4 b (by rw [he, hb1])
      omega
theorem asks_keep {A : Option Addr} {n : Nat} {l : List Int} {w : World} {ga gt : Nat} {tb : Int} (hr : RdM w A n l) (hrd : ∀ W, Kp ga w W → RdM W A n l) (hc : w.heap[ga]? = some (askObj (.slice none 0 0))) (hgt : gt < w.heap.size) (hne : gt ≠ ga) (htb : 0 ≤ tb) (hct : w.cell? ⟨gt, 0, none⟩ = some (.int .u64 tb)) :
    Asks A n l w (.func (.func 22) #[] #[.pointer (some ⟨ga, 0, none⟩), .pointer (some ⟨gt, 0, none⟩)]) (badT tb) (AT w ga gt tb) where
  two := fun W v xs h => h.two
  rd := fun W v xs h => hrd W h.kp
  start := fun w1 hb => by
    have hga := blk_lt hc
    obtain ⟨h4, h5, h⟩ := two_new hb
    exact ⟨(Kp.refl _ _).then h, ⟨h4, h5⟩, ⟨none, 0, 0, (h.block ga hga).trans hc, Kd.R_nil _ _ _ _ _, .inl rfl⟩, Kd.R_nil _ _ _ _ _⟩
  look := fun W A k c xs m h hk hm hl => by subst hk; exact look_ask w ga gt tb (blk_lt hc) hgt hne htb hct W _ xs m hm h hl
/-- After it: what was found, what was asked. -/
theorem AT.after {w W w' : World} {ga gt : Nat} {tb : Int} {v : Value} {xs : List (Int × Bool)} (hga : ga < w.heap.size) (hs : AT w ga gt tb W v xs) (h : Only w.heap.size W w') :
    ∃ A c B k d, v = .slice A xs.length c ∧ Kd.C Lk w' A xs.length xs ∧ Kp ga w w' ∧ w'.heap[ga]? = some (askObj (.slice B k d)) ∧ Kd.C (Kd.int .u64) w' B k (xs.map (·.1)) := by
  obtain ⟨B, k, d, hc, hR, _⟩ := hs.ask
  have h2 := Kd.R_step hs.hl (fun k hk _ => h.block k hk.2.1 hk.1)
  have h3 := Kd.R_step hR (fun k hk _ => h.block k hk.2.1 hk.1)
  obtain ⟨A, c, e, _, hC⟩ := Kd.R_reads h2
  obtain ⟨hk, _, hC3⟩ := Kd.R_reads' h3
  subst hk
  refine ⟨A, c, B, _, d, e, hC, { os := h.os.trans hs.kp.os, tape := h.tape.trans hs.kp.tape, output := h.output.trans hs.kp.output, size := by have := h.size; have := hs.kp.size; omega, block := fun k hk hn => (h.block k (by omega) (by omega)).trans (hs.kp.block k hk hn) }, (h.block ga (by omega) (by omega)).trans hc, hC3⟩
end Go.Proofs.Yteikmlgcmhgaoaa.Search
