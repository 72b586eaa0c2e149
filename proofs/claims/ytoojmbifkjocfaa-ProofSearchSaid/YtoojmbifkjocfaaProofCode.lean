/- What the small functions of layer 53's certificates answer: bit, and Decode's closure that takes numbers. Conditions stand in each statement. -/
import Derived.Test.YtoojmbifkjocfaaWirePG
import Derived.Test.YtoojmbifkjocfaaCellCode
import Derived.IntWalk
import Derived.Outline
import Derived.Deep.DeepMust
namespace Go.Proofs.Ytoojmbifkjocfaa.Proof
open Go.RowKit Go.Proofs.YtoojmbifkjocfaaW.PrintWords Go.Proofs.YtoojmbifkjocfaaW.PrintLast Go.Proofs.YtoojmbifkjocfaaW.PrintMore Go.Proofs.Ytoojmbifkjocfaa.Kit Go.Proofs.Ytoojmbifkjocfaa.Plain Go.Proofs.Ytoojmbifkjocfaa.Wire
set_option linter.unusedVariables false
set_option linter.unusedSimpArgs false
def bitS (b : Bool) : Int := if b then 1 else 0
theorem bit_any (b : Bool) (w : World) : Calls Try.prog 29 #[.bool b] w fun e w' => e = .returned (.int .u8 (bitS b)) ∧ w = w' := by
  cases b with
  | true =>
    go_enter Try.func29, Try.ntmps29
    go_wp2
    go_ret
    exact ⟨rfl, rfl⟩
  | false =>
    go_enter Try.func29, Try.ntmps29
    go_wp2
    go_ret
    exact ⟨rfl, rfl⟩
/-- The closure's two variables: what is left of the bytes (from m on), the error's number. -/
structure TkAt (w0 W : World) (p1 p2 : Nat) (b : List Int) (m : Nat) (e : Int) : Prop where
  ord : w0.heap.size ≤ p1 ∧ w0.heap.size ≤ p2 ∧ p1 ≠ p2
  bel : Below w0.heap.size w0 W
  sl : ∃ A c, b.length - m ≤ c ∧ RdN w0 A (b.length - m) (b.drop m) ∧ W.heap[p1]? = some (.cells #[.slice A (b.length - m) c] 42 (0, 0))
  er : W.heap[p2]? = some (.cells #[.int .i64 e] 44 (0, 0))
/-- All blocks but two stay. -/
def Kp2 (p1 p2 : Nat) (W W' : World) : Prop := W.heap.size ≤ W'.heap.size ∧ ∀ k, k < W.heap.size → k ≠ p1 → k ≠ p2 → W'.heap[k]? = W.heap[k]?
theorem Kp2.refl (p1 p2 : Nat) (W : World) : Kp2 p1 p2 W W := ⟨Nat.le_refl _, fun _ _ _ _ => rfl⟩
def tkM (b : List Int) (m : Nat) (e : Int) (n : Nat) : Nat := if e = 0 ∧ m + n ≤ b.length then m + n else m
def tkE (b : List Int) (m : Nat) (e : Int) (n : Nat) : Int := if e = 0 then (if m + n ≤ b.length then 0 else 14) else e
def tkV (b : List Int) (m : Nat) (e : Int) (n : Nat) : Int := if e = 0 then gv b m n else 0
set_option maxHeartbeats 1600000 in
set_option maxRecDepth 100000 in
theorem tk_any (p1 p2 : Nat) (b : List Int) (m n : Nat) (e : Int) (nI : Int) (hnI : nI = (n : Int)) (w0 w : World) (h : TkAt w0 w p1 p2 b m e) (hy : Byt b) (h1 : 1 ≤ n) (h8 : n ≤ 8) (hm : m ≤ b.length) :
    Calls Try.prog 26 #[.int .i64 nI, .pointer (some ⟨p1, 0, none⟩), .pointer (some ⟨p2, 0, none⟩)] w fun x w' => x = .returned (.int .u64 (tkV b m e n)) ∧ TkAt w0 w' p1 p2 b (tkM b m e n) (tkE b m e n) ∧ Kp2 p1 p2 w w' := by
  subst hnI
  obtain ⟨ho, hb, ⟨A, c, hc, hr, hs⟩, he⟩ := h
  have HO := Aside0.mk ho
  have HB := Aside0.mk hb
  have HS := Aside0.mk hs
  have HE := Aside0.mk he
  have HR := Aside0.mk hr
  have HY := Aside0.mk hy
  have hmx := C_max hr
  have c1 : w.cell? ⟨p1, 0, none⟩ = some (.slice A (b.length - m) c) := blk_cell hs 0
  have c2 : w.cell? ⟨p2, 0, none⟩ = some (.int .i64 e) := blk_cell he 0
  have z1 : w.frozen? ⟨p1, 0, none⟩ = false := blk_frozen hs 0
  have z2 : w.frozen? ⟨p2, 0, none⟩ = false := blk_frozen he 0
  clear ho hb hr hs he hy
  by_cases h0 : e = 0
  · subst h0
    by_cases hf : n ≤ b.length - m
    · have HV := Aside0.mk (show tkV b m 0 n = gv b m n by rw [tkV, if_pos rfl])
      have HM := Aside0.mk (show tkM b m 0 n = m + n by rw [tkM, if_pos ⟨rfl, by omega⟩])
      have HEE := Aside0.mk (show tkE b m 0 n = 0 by rw [tkE, if_pos rfl, if_pos (by omega)])
      have ct := cutTo A (b.length - m) c n hf hc .i64
      obtain ⟨A3, cf, hr3⟩ := cutFrom HR.out hc n hf .i64
      have HR3 := Aside0.mk hr3
      have HR1 := Aside0.mk (RdN_take HR.out n hf)
      have HG := Aside0.mk (show (getS ((b.drop m).take n)).1 = gv b m n by
        rw [gv, if_pos (by omega), getS, if_pos (by rw [List.length_take, List.length_drop]; omega)])
      have HF := Aside0.mk hf
      have HC := Aside0.mk hc
      obtain ⟨l, hl⟩ : ∃ l, l = b.length - m := ⟨_, rfl⟩
      rw [← hl] at c1 ct cf hmx
      have HL := Aside0.mk hl
      have hnl : ¬ (l < n) := by omega
      clear hr3 hf hc hl hm
      go_enter Try.func26, Try.ntmps26
      go_wp2_with (go_at_call 27; go_must (refine (Wire.get_any A n c ((b.drop m).take n) _ (Kd.C_below HR1.out HB.out) ((HY.out.drop _).take _)).mono ?_; rintro x w2 ⟨rfl, rfl⟩; rw [HG.out]))
      go_ret
      refine ⟨by rw [HV.out]; rfl, ?_, ⟨Nat.le_of_eq (by simp [World.setCell]), fun k _ hk _ => Below.heap_setCell _ ⟨p1, 0, none⟩ _ k hk⟩⟩
      rw [HM.out, HEE.out]
      refine { ord := HO.out, bel := HB.out.setCell (p := ⟨p1, 0, none⟩) HO.out.1 _, sl := ⟨A3, c - n, by have := HC.out; omega, ?_, ?_⟩, er := (Below.heap_setCell _ ⟨p1, 0, none⟩ _ p2 (fun h => HO.out.2.2 h.symm)).trans HE.out }
      · have := HR3.out
        rw [List.drop_drop] at this
        rw [show b.length - (m + n) = b.length - m - n by omega]
        exact this
      · rw [show b.length - (m + n) = l - n by rw [HL.out]; omega]
        exact blk_set HS.out 0 _
    · have HV := Aside0.mk (show tkV b m 0 n = 0 by rw [tkV, if_pos rfl, gv, if_neg (by omega)])
      have HM := Aside0.mk (show tkM b m 0 n = m by rw [tkM, if_neg (by omega)])
      have HEE := Aside0.mk (show tkE b m 0 n = 14 by rw [tkE, if_pos rfl, if_neg (by omega)])
      have HC := Aside0.mk hc
      obtain ⟨l, hl⟩ : ∃ l, l = b.length - m := ⟨_, rfl⟩
      rw [← hl] at c1 hmx
      have HL := Aside0.mk hl
      have hnl : l < n := by omega
      clear hf hc hl hm
      go_enter Try.func26, Try.ntmps26
      go_wp2
      go_ret
      refine ⟨by rw [HV.out]; rfl, ?_, ⟨Nat.le_of_eq (by simp [World.setCell]), fun k _ _ hk => Below.heap_setCell _ ⟨p2, 0, none⟩ _ k hk⟩⟩
      rw [HM.out, HEE.out]
      exact { ord := HO.out, bel := HB.out.setCell (p := ⟨p2, 0, none⟩) HO.out.2.1 _, sl := ⟨A, c, HC.out, HR.out, (Below.heap_setCell _ ⟨p2, 0, none⟩ _ p1 HO.out.2.2).trans HS.out⟩, er := blk_set HE.out 0 _ }
  · have HV := Aside0.mk (show tkV b m e n = 0 by rw [tkV, if_neg h0])
    have HM := Aside0.mk (show tkM b m e n = m by rw [tkM, if_neg (fun h => h0 h.1)])
    have HEE := Aside0.mk (show tkE b m e n = e by rw [tkE, if_neg h0])
    have HC := Aside0.mk hc
    have f1 : (e == 0) = false := beq_eq_false_iff_ne.2 h0
    have f2 : (e != 0) = true := bne_iff_ne.2 h0
    obtain ⟨l, hl⟩ : ∃ l, l = b.length - m := ⟨_, rfl⟩
    rw [← hl] at c1 hmx
    have HQ := Aside0.mk (show TkAt w0 w p1 p2 b m e from { ord := HO.out, bel := HB.out, sl := ⟨A, c, HC.out, HR.out, HS.out⟩, er := HE.out })
    clear hc h0 hl hm
    by_cases hf : l < n
    · have f3 : decide ((l : Int) < (n : Int)) = true := decide_eq_true (by omega)
      go_enter Try.func26, Try.ntmps26
      go_wp2
      go_ret
      exact ⟨by rw [HV.out]; rfl, by rw [HM.out, HEE.out]; exact HQ.out, Kp2.refl _ _ _⟩
    · have f3 : decide ((l : Int) < (n : Int)) = false := decide_eq_false (by omega)
      go_enter Try.func26, Try.ntmps26
      go_wp2
      go_ret
      exact ⟨by rw [HV.out]; rfl, by rw [HM.out, HEE.out]; exact HQ.out, Kp2.refl _ _ _⟩
/-- The second closure's variables, too: the first closure, and whether a byte was odd. -/
structure FlAt (w0 W : World) (p1 p2 p5 p6 : Nat) (b : List Int) (m : Nat) (e : Int) (odd : Bool) : Prop where
  tk : TkAt w0 W p1 p2 b m e
  fn : W.heap[p5]? = some (.cells #[.func (.func 26) #[] #[.pointer (some ⟨p1, 0, none⟩), .pointer (some ⟨p2, 0, none⟩)]] 62 (0, 0))
  od : W.heap[p6]? = some (.cells #[.bool odd] 4 (0, 0))
  far : p5 ≠ p1 ∧ p5 ≠ p2 ∧ p6 ≠ p1 ∧ p6 ≠ p2 ∧ p5 ≠ p6 ∧ w0.heap.size ≤ p6
theorem FlAt.take {w0 W W' : World} {p1 p2 p5 p6 : Nat} {b : List Int} {m m' : Nat} {e e' : Int} {odd : Bool} (h : FlAt w0 W p1 p2 p5 p6 b m e odd) (ht : TkAt w0 W' p1 p2 b m' e') (hk : Kp2 p1 p2 W W') : FlAt w0 W' p1 p2 p5 p6 b m' e' odd :=
  { tk := ht, fn := (hk.2 _ (blk_lt h.fn) h.far.1 h.far.2.1).trans h.fn, od := (hk.2 _ (blk_lt h.od) h.far.2.2.1 h.far.2.2.2.1).trans h.od, far := h.far }
theorem FlAt.setOdd {w0 W : World} {p1 p2 p5 p6 : Nat} {b : List Int} {m : Nat} {e : Int} {odd : Bool} (h : FlAt w0 W p1 p2 p5 p6 b m e odd) (o : Bool) : FlAt w0 (W.setCell ⟨p6, 0, none⟩ (.bool o)) p1 p2 p5 p6 b m e o := by
  obtain ⟨A, c, h1, h2, h3⟩ := h.tk.sl
  exact { tk := { ord := h.tk.ord, bel := h.tk.bel.setCell (p := ⟨p6, 0, none⟩) h.far.2.2.2.2.2 _, sl := ⟨A, c, h1, h2, (Below.heap_setCell W ⟨p6, 0, none⟩ _ p1 (fun q => h.far.2.2.1 q.symm)).trans h3⟩, er := (Below.heap_setCell W ⟨p6, 0, none⟩ _ p2 (fun q => h.far.2.2.2.1 q.symm)).trans h.tk.er }, fn := (Below.heap_setCell W ⟨p6, 0, none⟩ _ p5 h.far.2.2.2.2.1).trans h.fn, od := blk_set h.od 0 _, far := h.far }
/-- All blocks but three stay. -/
def Kp3 (p1 p2 p6 : Nat) (W W' : World) : Prop := W.heap.size ≤ W'.heap.size ∧ ∀ k, k < W.heap.size → k ≠ p1 → k ≠ p2 → k ≠ p6 → W'.heap[k]? = W.heap[k]?
def flV (b : List Int) (m : Nat) (e : Int) : Bool := decide (tkV b m e 1 = 1)
def flO (b : List Int) (m : Nat) (e : Int) (odd : Bool) : Bool := odd || decide (1 < tkV b m e 1)
set_option maxHeartbeats 1600000 in
set_option maxRecDepth 100000 in
theorem flag_any (p1 p2 p5 p6 : Nat) (b : List Int) (m : Nat) (e : Int) (odd : Bool) (w0 w : World) (h : FlAt w0 w p1 p2 p5 p6 b m e odd) (hy : Byt b) (hm : m ≤ b.length) :
    Calls Try.prog 28 #[.pointer (some ⟨p5, 0, none⟩), .pointer (some ⟨p6, 0, none⟩)] w fun x w' => x = .returned (.bool (flV b m e)) ∧ FlAt w0 w' p1 p2 p5 p6 b (tkM b m e 1) (tkE b m e 1) (flO b m e odd) ∧ Kp3 p1 p2 p6 w w' := by
  have HH := Aside0.mk h
  have HY := Aside0.mk hy
  have c5 := blk_cell h.fn 0
  have c6 : w.cell? ⟨p6, 0, none⟩ = some (.bool odd) := blk_cell h.od 0
  obtain ⟨v, hv⟩ : ∃ v, v = tkV b m e 1 := ⟨_, rfl⟩
  have HV := Aside0.mk hv
  clear h hy hv
  have hc5 : w.cell? ⟨p5, 0, none⟩ = some (.func (.func 26) #[] #[.pointer (some ⟨p1, 0, none⟩), .pointer (some ⟨p2, 0, none⟩)]) := c5
  clear c5
  cases odd with
  | true =>
    by_cases h1 : v = 1
    · have g1 : (v == 1) = true := beq_iff_eq.2 h1
      have g2 : decide (1 < v) = false := decide_eq_false (by omega)
      have HF := Aside0.mk (show flV b m e = true ∧ flO b m e true = true by rw [flV, flO, ← HV.out]; exact ⟨decide_eq_true h1, by simp⟩)
      clear h1
      go_enter Try.func28, Try.ntmps28
      go_wp2_with (go_at_call 26; go_must (refine (tk_any p1 p2 b m 1 e 1 rfl w0 w HH.out.tk HY.out (by decide) (by decide) hm).mono ?_; rintro x w1 ⟨rfl, ht, hk⟩; rw [← HV.out]; have H1 := Aside0.mk (HH.out.take ht hk); have HK := Aside0.mk hk; have c6 := blk_cell H1.out.od 0; have z6 := blk_frozen H1.out.od 0; clear ht hk))
      go_ret
      refine ⟨by rw [HF.out.1]; rfl, ?_, ⟨Nat.le_trans HK.out.1 (Nat.le_of_eq (by simp [World.setCell])), fun k hk h1 h2 h3 => (Below.heap_setCell _ ⟨p6, 0, none⟩ _ k h3).trans (HK.out.2 k hk h1 h2)⟩⟩
      rw [HF.out.2]
      exact H1.out.setOdd _
    · have g1 : (v == 1) = false := beq_eq_false_iff_ne.2 h1
      by_cases h2 : 1 < v
      · have g2 : decide (1 < v) = true := decide_eq_true h2
        clear h2
        have HF := Aside0.mk (show flV b m e = false ∧ flO b m e true = true by rw [flV, flO, ← HV.out]; exact ⟨decide_eq_false h1, by simp⟩)
        clear h1
        go_enter Try.func28, Try.ntmps28
        go_wp2_with (go_at_call 26; go_must (refine (tk_any p1 p2 b m 1 e 1 rfl w0 w HH.out.tk HY.out (by decide) (by decide) hm).mono ?_; rintro x w1 ⟨rfl, ht, hk⟩; rw [← HV.out]; have H1 := Aside0.mk (HH.out.take ht hk); have HK := Aside0.mk hk; have c6 := blk_cell H1.out.od 0; have z6 := blk_frozen H1.out.od 0; clear ht hk))
        go_ret
        refine ⟨by rw [HF.out.1]; rfl, ?_, ⟨Nat.le_trans HK.out.1 (Nat.le_of_eq (by simp [World.setCell])), fun k hk h1 h2 h3 => (Below.heap_setCell _ ⟨p6, 0, none⟩ _ k h3).trans (HK.out.2 k hk h1 h2)⟩⟩
        rw [HF.out.2]
        exact H1.out.setOdd _
      · have g2 : decide (1 < v) = false := decide_eq_false h2
        clear h2
        have HF := Aside0.mk (show flV b m e = false ∧ flO b m e true = true by rw [flV, flO, ← HV.out]; exact ⟨decide_eq_false h1, by simp⟩)
        clear h1
        go_enter Try.func28, Try.ntmps28
        go_wp2_with (go_at_call 26; go_must (refine (tk_any p1 p2 b m 1 e 1 rfl w0 w HH.out.tk HY.out (by decide) (by decide) hm).mono ?_; rintro x w1 ⟨rfl, ht, hk⟩; rw [← HV.out]; have H1 := Aside0.mk (HH.out.take ht hk); have HK := Aside0.mk hk; have c6 := blk_cell H1.out.od 0; have z6 := blk_frozen H1.out.od 0; clear ht hk))
        go_ret
        refine ⟨by rw [HF.out.1]; rfl, ?_, ⟨Nat.le_trans HK.out.1 (Nat.le_of_eq (by simp [World.setCell])), fun k hk h1 h2 h3 => (Below.heap_setCell _ ⟨p6, 0, none⟩ _ k h3).trans (HK.out.2 k hk h1 h2)⟩⟩
        rw [HF.out.2]
        exact H1.out.setOdd _
  | false =>
    by_cases h1 : v = 1
    · have g1 : (v == 1) = true := beq_iff_eq.2 h1
      have g2 : decide (1 < v) = false := decide_eq_false (by omega)
      have HF := Aside0.mk (show flV b m e = true ∧ flO b m e false = false by rw [flV, flO, ← HV.out]; exact ⟨decide_eq_true h1, by simp [g2]⟩)
      clear h1
      go_enter Try.func28, Try.ntmps28
      go_wp2_with (go_at_call 26; go_must (refine (tk_any p1 p2 b m 1 e 1 rfl w0 w HH.out.tk HY.out (by decide) (by decide) hm).mono ?_; rintro x w1 ⟨rfl, ht, hk⟩; rw [← HV.out]; have H1 := Aside0.mk (HH.out.take ht hk); have HK := Aside0.mk hk; have c6 := blk_cell H1.out.od 0; have z6 := blk_frozen H1.out.od 0; clear ht hk))
      go_ret
      refine ⟨by rw [HF.out.1]; rfl, ?_, ⟨Nat.le_trans HK.out.1 (Nat.le_of_eq (by simp [World.setCell])), fun k hk h1 h2 h3 => (Below.heap_setCell _ ⟨p6, 0, none⟩ _ k h3).trans (HK.out.2 k hk h1 h2)⟩⟩
      rw [HF.out.2]
      exact H1.out.setOdd _
    · have g1 : (v == 1) = false := beq_eq_false_iff_ne.2 h1
      by_cases h2 : 1 < v
      · have g2 : decide (1 < v) = true := decide_eq_true h2
        clear h2
        have HF := Aside0.mk (show flV b m e = false ∧ flO b m e false = true by rw [flV, flO, ← HV.out]; exact ⟨decide_eq_false h1, by simp [g2]⟩)
        clear h1
        go_enter Try.func28, Try.ntmps28
        go_wp2_with (go_at_call 26; go_must (refine (tk_any p1 p2 b m 1 e 1 rfl w0 w HH.out.tk HY.out (by decide) (by decide) hm).mono ?_; rintro x w1 ⟨rfl, ht, hk⟩; rw [← HV.out]; have H1 := Aside0.mk (HH.out.take ht hk); have HK := Aside0.mk hk; have c6 := blk_cell H1.out.od 0; have z6 := blk_frozen H1.out.od 0; clear ht hk))
        go_ret
        refine ⟨by rw [HF.out.1]; rfl, ?_, ⟨Nat.le_trans HK.out.1 (Nat.le_of_eq (by simp [World.setCell])), fun k hk h1 h2 h3 => (Below.heap_setCell _ ⟨p6, 0, none⟩ _ k h3).trans (HK.out.2 k hk h1 h2)⟩⟩
        rw [HF.out.2]
        exact H1.out.setOdd _
      · have g2 : decide (1 < v) = false := decide_eq_false h2
        clear h2
        have HF := Aside0.mk (show flV b m e = false ∧ flO b m e false = false by rw [flV, flO, ← HV.out]; exact ⟨decide_eq_false h1, by simp [g2]⟩)
        clear h1
        go_enter Try.func28, Try.ntmps28
        go_wp2_with (go_at_call 26; go_must (refine (tk_any p1 p2 b m 1 e 1 rfl w0 w HH.out.tk HY.out (by decide) (by decide) hm).mono ?_; rintro x w1 ⟨rfl, ht, hk⟩; rw [← HV.out]; have H1 := Aside0.mk (HH.out.take ht hk); have HK := Aside0.mk hk; have c6 := blk_cell H1.out.od 0; have z6 := blk_frozen H1.out.od 0; clear ht hk))
        go_ret
        refine ⟨by rw [HF.out.1]; rfl, ?_, ⟨Nat.le_trans HK.out.1 (Nat.le_of_eq (by simp [World.setCell])), fun k hk h1 h2 h3 => (Below.heap_setCell _ ⟨p6, 0, none⟩ _ k h3).trans (HK.out.2 k hk h1 h2)⟩⟩
        rw [HF.out.2]
        exact H1.out.setOdd _
end Go.Proofs.Ytoojmbifkjocfaa.Proof
