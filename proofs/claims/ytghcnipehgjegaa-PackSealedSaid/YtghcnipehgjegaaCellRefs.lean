/- What the small functions of the reference of layer 12 answer: minute, there, has, Put, get. Conditions stand in each statement. -/
import Derived.Test.YtghcnipehgjegaaCellOpen
namespace Go.Proofs.Ytghcnipehgjegaa.Cell
open Go.RowKit Go.Proofs.YtghcnipehgjegaaW.PrintWords Go.Proofs.YtghcnipehgjegaaW.PrintLast Go.Proofs.YtghcnipehgjegaaW.PrintMore Go.Proofs.Ytghcnipehgjegaa.Kit Go.Proofs.Ytghcnipehgjegaa.Plain Go.Proofs.Ytghcnipehgjegaa.Wire
set_option linter.unusedVariables false
set_option linter.unusedSimpArgs false
theorem minute_any (n : Int) (w : World) : Calls Try.prog 22 #[.int .i64 n] w fun e w' => e = .returned (.bool (within n 1073741824)) ∧ w = w' := by
  by_cases h1 : 0 ≤ n
  · have f1 : decide (0 ≤ n) = true := decide_eq_true h1
    have HR := Aside0.mk (show within n 1073741824 = decide (n ≤ 1073741824) from decide_eq_decide.2 ⟨fun h => h.2, fun h => ⟨h1, h⟩⟩)
    clear h1
    go_enter Try.func22, Try.ntmps22
    go_wp2
    go_ret
    exact ⟨retB HR.out.symm, rfl⟩
  · have f1 : decide (0 ≤ n) = false := decide_eq_false h1
    have HR := Aside0.mk (show within n 1073741824 = false from decide_eq_false (fun h => h1 h.1))
    clear h1
    go_enter Try.func22, Try.ntmps22
    go_wp2
    go_ret
    exact ⟨retB HR.out.symm, rfl⟩
set_option maxHeartbeats 800000 in
theorem refthere_any (br vol blk : Int) (w : World) : Calls Try.prog 23 #[.agg #[.int .i64 br, .int .i64 vol, .int .i64 blk]] w fun e w' => e = .returned (.bool (thereB br vol blk)) ∧ Below w.heap.size w w' := by
  by_cases ha : 0 ≤ br
  · have ga : decide (0 ≤ br) = true := decide_eq_true ha
    by_cases hb : br ≤ 15
    · have gb : decide (br ≤ 15) = true := decide_eq_true hb
      by_cases hc : 0 ≤ vol
      · have gc : decide (0 ≤ vol) = true := decide_eq_true hc
        by_cases hd : vol ≤ 7
        · have gd : decide (vol ≤ 7) = true := decide_eq_true hd
          by_cases he : 0 ≤ blk
          · have ge : decide (0 ≤ blk) = true := decide_eq_true he
            by_cases hf : blk ≤ 255
            · have gf : decide (blk ≤ 255) = true := decide_eq_true hf
              have HE := Aside0.mk (show thereB br vol blk = true by simp [thereB, within]; omega)
              clear ha hb hc hd he hf
              go_enter Try.func23, Try.ntmps23
              go_wp2
              go_ret
              exact ⟨retB HE.out.symm, below_alloc (Below.refl _ _) _⟩
            · have gf : decide (blk ≤ 255) = false := decide_eq_false hf
              have HE := Aside0.mk (show thereB br vol blk = false by simp [thereB, within]; omega)
              clear ha hb hc hd he hf
              go_enter Try.func23, Try.ntmps23
              go_wp2
              go_ret
              exact ⟨retB HE.out.symm, below_alloc (Below.refl _ _) _⟩
          · have ge : decide (0 ≤ blk) = false := decide_eq_false he
            have HE := Aside0.mk (show thereB br vol blk = false by simp [thereB, within]; omega)
            clear ha hb hc hd he
            go_enter Try.func23, Try.ntmps23
            go_wp2
            go_ret
            exact ⟨retB HE.out.symm, below_alloc (Below.refl _ _) _⟩
        · have gd : decide (vol ≤ 7) = false := decide_eq_false hd
          have HE := Aside0.mk (show thereB br vol blk = false by simp [thereB, within]; omega)
          clear ha hb hc hd
          go_enter Try.func23, Try.ntmps23
          go_wp2
          go_ret
          exact ⟨retB HE.out.symm, below_alloc (Below.refl _ _) _⟩
      · have gc : decide (0 ≤ vol) = false := decide_eq_false hc
        have HE := Aside0.mk (show thereB br vol blk = false by simp [thereB, within]; omega)
        clear ha hb hc
        go_enter Try.func23, Try.ntmps23
        go_wp2
        go_ret
        exact ⟨retB HE.out.symm, below_alloc (Below.refl _ _) _⟩
    · have gb : decide (br ≤ 15) = false := decide_eq_false hb
      have HE := Aside0.mk (show thereB br vol blk = false by simp [thereB, within]; omega)
      clear ha hb
      go_enter Try.func23, Try.ntmps23
      go_wp2
      go_ret
      exact ⟨retB HE.out.symm, below_alloc (Below.refl _ _) _⟩
  · have ga : decide (0 ≤ br) = false := decide_eq_false ha
    have HE := Aside0.mk (show thereB br vol blk = false by simp [thereB, within]; omega)
    clear ha
    go_enter Try.func23, Try.ntmps23
    go_wp2
    go_ret
    exact ⟨retB HE.out.symm, below_alloc (Below.refl _ _) _⟩
theorem refhas_any (k : Int) (w : World) : Calls Try.prog 38 #[.int .i64 k] w fun e w' => e = .returned (.tuple #[.bool (hasPlace k), .bool (hasRef k), .bool (hasMin k), .bool (hasBody k)]) ∧ w = w' := by
  by_cases h1 : k = 1
  · subst h1
    go_enter Try.func38, Try.ntmps38
    go_wp2
    refine bodyPost_ret (v := .tuple #[.bool (hasPlace 1), .bool (hasRef 1), .bool (hasMin 1), .bool (hasBody 1)]) (by simp [results, Try.results38, go_sem, hasPlace, hasRef, hasMin, hasBody]) rfl ?_
    exact ⟨rfl, rfl⟩
  by_cases h2 : k = 2
  · subst h2
    go_enter Try.func38, Try.ntmps38
    go_wp2
    refine bodyPost_ret (v := .tuple #[.bool (hasPlace 2), .bool (hasRef 2), .bool (hasMin 2), .bool (hasBody 2)]) (by simp [results, Try.results38, go_sem, hasPlace, hasRef, hasMin, hasBody]) rfl ?_
    exact ⟨rfl, rfl⟩
  by_cases h3 : k = 3
  · subst h3
    go_enter Try.func38, Try.ntmps38
    go_wp2
    refine bodyPost_ret (v := .tuple #[.bool (hasPlace 3), .bool (hasRef 3), .bool (hasMin 3), .bool (hasBody 3)]) (by simp [results, Try.results38, go_sem, hasPlace, hasRef, hasMin, hasBody]) rfl ?_
    exact ⟨rfl, rfl⟩
  by_cases h4 : k = 4
  · subst h4
    go_enter Try.func38, Try.ntmps38
    go_wp2
    refine bodyPost_ret (v := .tuple #[.bool (hasPlace 4), .bool (hasRef 4), .bool (hasMin 4), .bool (hasBody 4)]) (by simp [results, Try.results38, go_sem, hasPlace, hasRef, hasMin, hasBody]) rfl ?_
    exact ⟨rfl, rfl⟩
  by_cases h5 : k = 5
  · subst h5
    go_enter Try.func38, Try.ntmps38
    go_wp2
    refine bodyPost_ret (v := .tuple #[.bool (hasPlace 5), .bool (hasRef 5), .bool (hasMin 5), .bool (hasBody 5)]) (by simp [results, Try.results38, go_sem, hasPlace, hasRef, hasMin, hasBody]) rfl ?_
    exact ⟨rfl, rfl⟩
  by_cases h6 : k = 6
  · subst h6
    go_enter Try.func38, Try.ntmps38
    go_wp2
    refine bodyPost_ret (v := .tuple #[.bool (hasPlace 6), .bool (hasRef 6), .bool (hasMin 6), .bool (hasBody 6)]) (by simp [results, Try.results38, go_sem, hasPlace, hasRef, hasMin, hasBody]) rfl ?_
    exact ⟨rfl, rfl⟩
  by_cases h7 : k = 7
  · subst h7
    go_enter Try.func38, Try.ntmps38
    go_wp2
    refine bodyPost_ret (v := .tuple #[.bool (hasPlace 7), .bool (hasRef 7), .bool (hasMin 7), .bool (hasBody 7)]) (by simp [results, Try.results38, go_sem, hasPlace, hasRef, hasMin, hasBody]) rfl ?_
    exact ⟨rfl, rfl⟩
  by_cases h8 : k = 8
  · subst h8
    go_enter Try.func38, Try.ntmps38
    go_wp2
    refine bodyPost_ret (v := .tuple #[.bool (hasPlace 8), .bool (hasRef 8), .bool (hasMin 8), .bool (hasBody 8)]) (by simp [results, Try.results38, go_sem, hasPlace, hasRef, hasMin, hasBody]) rfl ?_
    exact ⟨rfl, rfl⟩
  have f1 : (k == 1) = false := beq_eq_false_iff_ne.2 h1
  have f2 : (k == 2) = false := beq_eq_false_iff_ne.2 h2
  have f3 : (k == 3) = false := beq_eq_false_iff_ne.2 h3
  have f4 : (k == 4) = false := beq_eq_false_iff_ne.2 h4
  have f5 : (k == 5) = false := beq_eq_false_iff_ne.2 h5
  have f6 : (k == 6) = false := beq_eq_false_iff_ne.2 h6
  have f7 : (k == 7) = false := beq_eq_false_iff_ne.2 h7
  have f8 : (k == 8) = false := beq_eq_false_iff_ne.2 h8
  have HE := Aside0.mk (show hasRef k = false ∧ hasMin k = false ∧ hasBody k = false ∧ hasPlace k = false from ⟨decide_eq_false (by omega), decide_eq_false (by omega), decide_eq_false (by omega), decide_eq_false (by omega)⟩)
  clear h1 h2 h3 h4 h5 h6 h7 h8
  go_enter Try.func38, Try.ntmps38
  go_wp2
  refine bodyPost_ret (v := .tuple #[.bool false, .bool false, .bool false, .bool false]) (by simp [results, Try.results38, go_sem]) rfl ?_
  rw [HE.out.1, HE.out.2.1, HE.out.2.2.1, HE.out.2.2.2]
  exact ⟨rfl, rfl⟩
set_option maxHeartbeats 800000 in
set_option maxRecDepth 100000 in
theorem refput_any (n : Int) (s : Nat) (sI : Int) (hsI : sI = (s : Int)) (w : World) (h0 : 0 ≤ n) (h64 : n < 2 ^ 64) (h8 : s ≤ 8) :
    Calls Try.prog 37 #[.int .u64 n, .int .i64 sI] w fun e w' => ∃ v, e = .returned v ∧ OwB w' w.heap.size v (put n s) ∧ Below w.heap.size w w' := by
  subst hsI
  have HB := Aside0.mk (Below.refl w.heap.size w)
  go_enter Try.func37, Try.ntmps37
  go_wp2
  go_loopg [5, 6] s (fun gk v5 v6 w' => ∃ (j : Nat) (q : Int), v6 = .int .i64 q ∧ j + gk = s ∧ q = (gk : Int) - 1 ∧ Aside0 (OwB w' w.heap.size v5 ((put n s).take j)) ∧ Aside0 (Below w.heap.size w w'))
  case atStart => exact ⟨0, _, rfl, by omega, by omega, ⟨Kd.R_nil _ _ _ _ _⟩, HB⟩
  case round =>
    clear HB
    obtain ⟨j, q, rfl, hj, hq, HO, HB⟩ := hrel
    by_cases hlt : j < s
    · obtain ⟨g, rfl⟩ : ∃ g : Nat, gk = g + 1 := ⟨gk - 1, by omega⟩
      obtain rfl : q = (g : Int) := by omega
      have hg0 : (0 : Int) ≤ (g : Int) := by omega
      have HD := Aside0.mk (show (put n s).take (j + 1) = (put n s).take j ++ [n / 2 ^ (8 * g) % 256] by
        rw [take_snoc (by rw [put_len]; exact hlt)]
        congr 2
        rw [nth_eq (by rw [put_len]; exact hlt)]
        simp [put, dig, show s - 1 - j = g by omega])
      have HTL := Aside0.mk (show ((put n s).take j).length ≤ 8 by rw [List.length_take, put_len]; omega)
      have hjs : Aside0 (j + 1 + g = s) := ⟨by omega⟩
      have hg8 : (g : Int) < 8 := by omega
      have et : (8 * (g : Int)).toNat = 8 * g := by omega
      clear hq hj hlt
      go_wp2_with (first
        | ((with_reducible refine gate_dst (N := 19) rfl ?_); (try (refine gate_guard (by rfl) ?_; dsimp only)); refine litB w.heap.size rfl (N := 19) rfl [n / 2 ^ (8 * g) % 256] ?hr HB.out HB.out.size (by simp) ?_; (case hr => first | (go_simp; done) | (go_simp; rfl)); intro v1 w1 ho hb0 hn hb; replace HO := Aside0.mk (Kd.R_below HO.out hb); clear HB; have HB := Aside0.mk hb0; have HO1 := Aside0.mk ho; obtain ⟨A1, c1, rfl, hcap1, hr1⟩ := Ow_slice ho; have HR1 := Aside0.mk hr1; clear hr1 ho hb hb0 hn)
        | ((with_reducible refine gate_dst (N := 20) rfl ?_); (try (refine gate_guard (by rfl) ?_; dsimp only)); refine appB w.heap.size rfl (.tmp 13) (.tmp 19) rfl rfl _ ((put n s).take j) [n / 2 ^ (8 * g) % 256] A1 1 c1 rfl rfl HO.out HR1.out HB.out HB.out.size (by have := HTL.out; omega) ?_; intro v2 w2 ho hb hg hat; clear HB; have HB := Aside0.mk hb; have HO2 := Aside0.mk ho; clear ho hb hg hat))
      go_roundg g
      case measure => omega
      case rel => exact ⟨j + 1, _, rfl, hjs.out, by go_num, ⟨by rw [HD.out]; exact HO2.out⟩, HB⟩
    · have hq0 : ¬ 0 ≤ q := by omega
      have HF := Aside0.mk (show (put n s).take j = put n s from List.take_of_length_le (by rw [put_len]; omega))
      clear hq
      go_wp2
      go_ret
      exact ⟨_, rfl, HF.out ▸ HO.out, HB.out⟩
end Go.Proofs.Ytghcnipehgjegaa.Cell
