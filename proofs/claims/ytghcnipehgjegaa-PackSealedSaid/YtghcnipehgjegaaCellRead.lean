/- What the reader of layer 12 (take, num) and bytes.Clone answer. Conditions stand in each statement. -/
import Derived.Test.YtghcnipehgjegaaCellOpen
namespace Go.Proofs.Ytghcnipehgjegaa.Cell
open Go.RowKit Go.Proofs.YtghcnipehgjegaaW.PrintWords Go.Proofs.YtghcnipehgjegaaW.PrintLast Go.Proofs.YtghcnipehgjegaaW.PrintMore Go.Proofs.Ytghcnipehgjegaa.Kit Go.Proofs.Ytghcnipehgjegaa.Plain Go.Proofs.Ytghcnipehgjegaa.Wire
set_option linter.unusedVariables false
set_option linter.unusedSimpArgs false
/-- A reader's block: so many bytes were taken (or asked for). -/
def rdObj (A : Option Addr) (c : Nat) (b : List Int) (m : Nat) : Obj := .cells #[.slice A (b.length - m) c, .bool (decide (b.length < m))] 91 (0, 0)
def RdAt (w0 w : World) (p : Nat) (b : List Int) (m : Nat) : Prop := w0.heap.size ≤ p ∧ Below w0.heap.size w0 w ∧ ∃ A c, b.length - m ≤ c ∧ RdN w0 A (b.length - m) (b.drop m) ∧ w.heap[p]? = some (rdObj A c b m)
/-- What is taken. -/
def tk (b : List Int) (m n : Nat) : List Int := if m + n ≤ b.length then (b.drop m).take n else []
theorem tk_gv (b : List Int) (m n : Nat) (h1 : 1 ≤ n) (h8 : n ≤ 8) : (getS (tk b m n)).1 = gv b m n := by
  unfold tk gv
  by_cases h : m + n ≤ b.length
  · rw [if_pos h, if_pos h, getS, if_pos (by rw [List.length_take, List.length_drop]; omega)]
  · rw [if_neg h, if_neg h]; rfl
theorem tk_byt {b : List Int} (h : Byt b) (m n : Nat) : Byt (tk b m n) := by
  unfold tk
  split
  · exact (h.drop _).take _
  · exact Byt.nil
theorem tk_len (b : List Int) (m n : Nat) : (tk b m n).length ≤ n := by
  unfold tk
  split
  · rw [List.length_take]; omega
  · simp
set_option maxHeartbeats 800000 in
set_option maxRecDepth 100000 in
theorem take_any (p : Nat) (b : List Int) (m n : Nat) (w0 w : World) (h : RdAt w0 w p b m) (hn : n ≤ 300) :
    Calls Try.prog 41 #[.pointer (some ⟨p, 0, none⟩), .int .i64 (n : Int)] w fun e w' => (∃ A1 c1, e = .returned (.slice A1 (tk b m n).length c1) ∧ (tk b m n).length ≤ c1 ∧ RdN w0 A1 (tk b m n).length (tk b m n) ∧ (A1 = none → tk b m n = [])) ∧ RdAt w0 w' p b (m + n) ∧ KpB w.heap.size p w w' := by
  obtain ⟨hp, hb, A, c, hc, hr, hh⟩ := h
  have hmx := C_max hr
  have c0 : w.cell? ⟨p, 0, none⟩ = some (.slice A (b.length - m) c) := blk_cell hh 0
  have c1 : w.cell? ⟨p, 1, none⟩ = some (.bool (decide (b.length < m))) := blk_cell hh 1
  have z0 : w.frozen? ⟨p, 0, none⟩ = false := blk_frozen hh 0
  have z1 : w.frozen? ⟨p, 1, none⟩ = false := blk_frozen hh 1
  have HH := Aside0.mk hh
  have HR := Aside0.mk hr
  have HB := Aside0.mk hb
  have HP := Aside0.mk hp
  have hdl : (b.drop m).length = b.length - m := List.length_drop
  have HDL := Aside0.mk hdl
  clear hr hb hh hp hdl
  by_cases hf : n ≤ b.length - m
  · have g0 : decide (((b.length - m : Nat) : Int) < (n : Int)) = false := decide_eq_false (by omega)
    have ct := cutTo A (b.length - m) c n hf hc .i64
    obtain ⟨A3, cf, hr3⟩ := cutFrom HR.out hc n hf .i64
    have HR1 := Aside0.mk (RdN_take HR.out n hf)
    have HR3 := Aside0.mk hr3
    have HA : Aside0 (A = none → b.length - m = 0) := ⟨fun h => by
      have h1 := HR.out
      rw [h] at h1
      rcases Nat.eq_zero_or_pos (b.length - m) with h2 | h2
      · exact h2
      · obtain ⟨ad, he, _⟩ := C_at h1 0 h2
        cases he⟩
    have htk : tk b m n = (b.drop m).take n := by
      unfold tk
      by_cases h : m + n ≤ b.length
      · rw [if_pos h]
      · have h2 : n = 0 := by omega
        rw [if_neg h, h2]; rfl
    have htl : ((b.drop m).take n).length = n := by rw [List.length_take, List.length_drop]; omega
    have HTK := Aside0.mk (And.intro htk htl)
    have hcn : n ≤ c := by omega
    have HF := Aside0.mk hf
    have HC := Aside0.mk hc
    obtain ⟨l, hl⟩ : ∃ l, l = b.length - m := ⟨_, rfl⟩
    rw [← hl] at c0 g0 ct cf hmx
    have HL := Aside0.mk hl
    have hnl : ¬ (l < n) := by omega
    clear hr3 htk htl hf hc hl
    go_enter Try.func41, Try.ntmps41
    go_wp2
    go_ret
    rw [HTK.out.1, HTK.out.2]
    refine ⟨⟨A, c, rfl, hcn, HR1.out, fun h => ?_⟩, ⟨HP.out, HB.out.setCell HP.out _, A3, c - n, ?_, ?_, ?_⟩, (KpB.refl _ p w).set_ 0 _⟩
    · have := HA.out h
      have := HF.out
      apply List.eq_nil_of_length_eq_zero
      rw [HTK.out.2]; omega
    · have := HC.out; omega
    · have := HR3.out
      rw [List.drop_drop] at this
      rw [show b.length - (m + n) = b.length - m - n by omega]
      exact this
    · have h1 := blk_set HH.out 0 (.slice A3 (l - n) (c - n))
      rw [h1, rdObj, show decide (b.length < m + n) = decide (b.length < m) from decide_eq_decide.2 (by have := HF.out; omega), show b.length - (m + n) = l - n by rw [HL.out]; omega]
      rfl
  · have g0 : decide (((b.length - m : Nat) : Int) < (n : Int)) = true := decide_eq_true (by omega)
    have htk : tk b m n = [] := by
      unfold tk
      rw [if_neg (by omega)]
    have HTK := Aside0.mk htk
    have HF := Aside0.mk hf
    clear htk hf
    obtain ⟨l, hl⟩ : ∃ l, l = b.length - m := ⟨_, rfl⟩
    rw [← hl] at c0 g0 hmx hc
    have HL := Aside0.mk hl
    have hln : l < n := by have := HF.out; omega
    clear hl
    go_enter Try.func41, Try.ntmps41
    go_wp2
    go_ret
    rw [HTK.out]
    refine ⟨⟨none, 0, rfl, Nat.le_refl _, RdB_nil _, fun _ => rfl⟩, ⟨HP.out, Below.setCell (p := ⟨p, 0, none⟩) (Below.setCell (p := ⟨p, 1, none⟩) HB.out HP.out (.bool true)) HP.out (.slice none 0 0), none, 0, ?_, ?_, ?_⟩, ((KpB.refl _ p w).set_ 1 _).set_ 0 _⟩
    · have := HF.out; omega
    · rw [show b.length - (m + n) = 0 by have := HF.out; omega, List.drop_of_length_le (by have := HF.out; omega)]
      exact RdB_nil _
    · have h1 := blk_set (blk_set HH.out 1 (.bool true)) 0 (.slice none 0 0)
      rw [h1, rdObj, show decide (b.length < m + n) = true from decide_eq_true (by have := HF.out; omega), show b.length - (m + n) = 0 by have := HF.out; omega]
      rfl
set_option maxHeartbeats 800000 in
theorem num_any (p : Nat) (b : List Int) (m n : Nat) (nI : Int) (hnI : nI = (n : Int)) (w0 w : World) (h : RdAt w0 w p b m) (hy : Byt b) (h1 : 1 ≤ n) (h4 : n ≤ 4) :
    Calls Try.prog 39 #[.pointer (some ⟨p, 0, none⟩), .int .i64 nI] w fun e w' => e = .returned (.int .i64 (gv b m n)) ∧ RdAt w0 w' p b (m + n) ∧ KpB w.heap.size p w w' := by
  subst hnI
  have HH := Aside0.mk h
  have HY := Aside0.mk hy
  have hg := gv_range hy m n
  have hp : (2 : Int) ^ (8 * n) ≤ 2 ^ 32 := pow_mono (by omega)
  have e1 : IntKind.i64.wrap (gv b m n) = gv b m n := IntWalk.i64_in _ (by omega)
  clear h hy hg hp
  go_enter Try.func39, Try.ntmps39
  go_wp2_with (first
    | (go_at_call 41; go_must (refine (take_any p b m n w0 _ HH.out (by omega)).mono ?_; rintro e w1 ⟨⟨A1, c1, rfl, _, hr1, _⟩, h2, hk⟩; have HR1 := Aside0.mk hr1; have H2 := Aside0.mk h2; have HK := Aside0.mk hk; clear h2 hk hr1))
    | (go_at_call 32; go_must (refine (get_any A1 _ c1 (tk b m n) _ (Kd.C_below HR1.out H2.out.2.1) (tk_byt HY.out m n)).mono ?_; rintro e w2 ⟨rfl, rfl⟩; rw [tk_gv b m n h1 (by omega)])))
  go_ret
  exact ⟨rfl, H2.out, HK.out⟩
set_option maxRecDepth 100000 in
/-- bytes.Clone: nil of nil, else a row of one's own. -/
theorem clone_any (A : Option Addr) (c : Nat) (l : List Int) (w : World) (hr : RdB w A l) (hl : l.length ≤ 1000) (hA : A = none → l = []) :
    Calls Try.prog 40 #[.slice A l.length c] w fun e w' => (∃ v, e = .returned v ∧ OwB w' w.heap.size v l) ∧ Below w.heap.size w w' := by
  have HR := Aside0.mk hr
  clear hr
  have HB := Aside0.mk (Below.refl w.heap.size w)
  have hnl : ∀ W : World, (binOp .eql 28 (.slice A l.length c) (.slice none 0 0)).run Try.prog W = .ok (.bool A.isNone) W := fun _ => by cases A <;> rfl
  cases A with
  | none =>
    have HN := Aside0.mk (hA rfl)
    clear hA
    go_enter Try.func40, Try.ntmps40
    go_wp2
    go_ret
    exact ⟨⟨_, rfl, by rw [HN.out]; exact Kd.R_nil _ _ _ _ _⟩, HB.out⟩
  | some ad =>
    clear hA
    go_enter Try.func40, Try.ntmps40
    go_wp2_with (first
      | ((with_reducible refine gate_dst (N := 5) rfl ?_); (try (refine gate_guard (by rfl) ?_; dsimp only)); refine litB w.heap.size rfl (N := 5) rfl [] ?hr HB.out HB.out.size (by simp) ?_; (case hr => first | (go_simp; done) | (go_simp; rfl)); intro v1 w1 ho hb0 hn hb; clear HB; have HB := Aside0.mk hb0; have HO1 := Aside0.mk ho; obtain ⟨A1, c1, rfl, hcap1, hr1⟩ := Ow_slice ho; have HR1 := Aside0.mk hr1; clear hr1 ho hb hb0 hn)
      | ((with_reducible refine gate_dst (N := 7) rfl ?_); (try (refine gate_guard (by rfl) ?_; dsimp only)); refine appB w.heap.size rfl (.tmp 5) (.tmp 6) rfl rfl _ [] l (some ad) l.length c rfl rfl HO1.out (Kd.C_below HR.out HB.out) HB.out HB.out.size (by simp; omega) ?_; intro v2 w2 ho hb hg hat; clear HB; have HB := Aside0.mk hb; have HO2 := Aside0.mk ho; clear ho hb hg hat))
    go_ret
    exact ⟨⟨_, rfl, HO2.out⟩, HB.out⟩
end Go.Proofs.Ytghcnipehgjegaa.Cell
