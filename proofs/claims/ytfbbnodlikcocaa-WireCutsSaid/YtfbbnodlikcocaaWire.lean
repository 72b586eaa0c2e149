/- What each function of layer 1 (wire) and of its reference answers, for every argument that can be read. No other conditions. -/
import Derived.Test.YtfbbnodlikcocaaBytes
import Derived.Test.YtfbbnodlikcocaaPlain
namespace Go.Proofs.Ytfbbnodlikcocaa.Wire
open Go.RowKit Go.Proofs.YtfbbnodlikcocaaW.PrintWords Go.Proofs.YtfbbnodlikcocaaW.PrintLast Go.Proofs.YtfbbnodlikcocaaW.PrintMore Go.Proofs.Ytfbbnodlikcocaa.Kit Go.Proofs.Ytfbbnodlikcocaa.Plain
attribute [local go_sem] max2_int min2_int max_two min_two max_three min_three
set_option linter.unusedVariables false
set_option linter.unusedSimpArgs false

/-! wire.Put -/
theorem put_no (n s : Int) (w : World) (h : s < 1 ∨ 8 < s) :
    Calls Try.prog 17 #[.int .u64 n, .int .i64 s] w fun e w' => e = .returned (.slice none 0 0) ∧ w = w' := by
  rcases h with h | h
  · go_enter Try.func17, Try.ntmps17
    go_wp2
    go_ret
    exact ⟨rfl, rfl⟩
  · have h1 : ¬ s < 1 := by omega
    go_enter Try.func17, Try.ntmps17
    go_wp2
    go_ret
    exact ⟨rfl, rfl⟩
set_option maxHeartbeats 400000 in
theorem put_yes (n : Int) (s : Nat) (w : World) (h1 : 1 ≤ s) (h8 : s ≤ 8) :
    Calls Try.prog 17 #[.int .u64 n, .int .i64 s] w fun e w' => ∃ v, e = .returned v ∧ OwB w' w.heap.size v (put n s) ∧ Below w.heap.size w w' := by
  have g1 : ¬ (s : Int) < 1 := by omega
  have g2 : ¬ (s : Int) > 8 := by omega
  have g3 : 0 ≤ (s : Int) := by omega
  have g4 : (s : Int).toNat ≤ 281474976710656 := by omega
  have HB := Aside0.mk (Below.refl w.heap.size w)
  go_enter Try.func17, Try.ntmps17
  go_wp2_with (first | ((with_reducible refine gate_dst (N := 14) rfl ?_); refine Kd.R_make (Kd.int .u8) _ 5 rfl (N := 14) rfl 22 _ _ rfl s rfl rfl Try.underlying22 (.int .u8 0) 1 infoU8 rfl (by decide) (by omega) 0 (ok := fun _ => True) (okp := fun _ => True) rfl (fun _ hk => hk) trivial g3 (by omega) (Below.refl _ _) (Nat.le_refl _) ?_; intro v w1 ho hb hg hn; clear hg hn; have HO := Aside0.mk ho; replace HB := Aside0.mk hb; clear ho hb; obtain ⟨A, c, rfl⟩ := Kd.R_slice HO.out))
  have e0 : (List.replicate (s : Int).toNat 0 : List Int) = putAt n s 0 := by simp [putAt]
  rw [e0] at HO
  clear e0 g3 g4
  go_loopg [17] s (fun gk v17 w' => ∃ i : Nat, v17 = .int .i64 i ∧ i + gk = s ∧ Aside0 (OwB w' w.heap.size (.slice A s c) (putAt n s i)) ∧ Aside0 (Below w.heap.size w w'))
  case atStart =>
    refine ⟨0, rfl, by omega, ?_, HB⟩
    rw [putAt_len _ _ _ (by omega)] at HO
    exact HO
  case round =>
    clear HO HB
    obtain ⟨i, rfl, hi, HO, HB⟩ := hrel
    by_cases hlt : i < s
    · have c1 : (i : Int) < s := by omega
      have l1 := putAt_len n s i (by omega)
      obtain ⟨g, c', eo, gb, gl, cl, HG⟩ := Kd.R_form HO.out (by omega)
      injection eo with ea en ec
      subst ea ec
      clear en
      have l2 := Aside0.mk l1
      clear l1
      obtain ⟨hc, hf⟩ := R_at HO.out i (by omega)
      have HP := Aside0.mk (R_put' HO.out i (dig n s i))
      go_wp2_with (fail)
      go_roundg (gk - 1)
      case measure => omega
      case rel => exact ⟨i + 1, rfl, by omega, ⟨by rw [← putAt_set n s i hlt]; exact HP.out⟩, ⟨below_set HB.out gb⟩⟩
    · obtain rfl : i = s := by omega
      go_wp2
      go_ret
      exact ⟨_, rfl, by rw [← putAt_all]; exact HO.out, HB.out⟩
theorem put_any (n s : Int) (w : World) :
    Calls Try.prog 17 #[.int .u64 n, .int .i64 s] w fun e w' => ∃ v, e = .returned v ∧ OwB w' w.heap.size v (putS n s) ∧ Below w.heap.size w w' := by
  by_cases h : 1 ≤ s ∧ s ≤ 8
  · obtain ⟨m, rfl⟩ := Int.eq_ofNat_of_zero_le (show 0 ≤ s by omega)
    refine (put_yes n m w (by omega) (by omega)).mono ?_
    rintro e w' ⟨v, rfl, ho, hb⟩
    exact ⟨v, rfl, by rw [putS, if_pos h]; simpa using ho, hb⟩
  · refine (put_no n s w (by omega)).mono ?_
    rintro e w' ⟨rfl, rfl⟩
    exact ⟨_, rfl, by rw [putS, if_neg h]; exact Kd.R_nil _ _ _ _ _, Below.refl _ _⟩

/-! Same -/
set_option maxHeartbeats 400000 in
theorem same_any (A : Option Addr) (n c : Nat) (l : List Int) (A' : Option Addr) (n' c' : Nat) (l' : List Int) (w : World) (hr : RdN w A n l) (hr' : RdN w A' n' l') :
    Calls Try.prog 13 #[.slice A n c, .slice A' n' c'] w fun e w' => e = .returned (.bool (decide (l = l'))) ∧ Drawn0 w w' := by
  obtain rfl := C_len hr
  obtain rfl := C_len hr'
  by_cases hl : l.length = l'.length
  · have c1 : ((l.length : Int) != (l'.length : Int)) = false := by simp [hl]
    have c2 : ((l.length : Int) == (l'.length : Int)) = true := by simp [hl]
    have c3 : (l.length == l'.length) = true := by simp [hl]
    have HL := Aside0.mk hl
    have HR := Aside0.mk hr
    have HR' := Aside0.mk hr'
    have hm := C_max hr
    clear hl hr hr'
    go_enter Try.func13, Try.ntmps13
    go_wp2
    clear c1 c2 c3
    go_loopg [5] l.length (fun gk v w' => ∃ i : Nat, v = .int .i64 i ∧ i + gk = l.length ∧ Aside0 (l.take i = l'.take i) ∧ Drawn0 w w')
    case atStart => exact ⟨0, rfl, by omega, ⟨rfl⟩, Drawn0.refl _⟩
    case round =>
      obtain ⟨i, rfl, hi, HE, ⟨m, rfl⟩⟩ := hrel
      by_cases hlt : i < l.length
      · have hlt' : i < l'.length := by rw [← HL.out]; exact hlt
        obtain ⟨ad, rfl, hc⟩ := C_at HR.out i hlt
        obtain ⟨ad', rfl, hc'⟩ := C_at HR'.out i hlt'
        by_cases he : nth l i = nth l' i
        · have e1 : (nth l i == nth l' i) = true := beq_iff_eq.mpr he
          have e2 : (nth l i != nth l' i) = false := bne_eq_false_iff_eq.mpr he
          have HE2 := Aside0.mk he
          clear he
          go_wp2
          repeat (go_quiet (fail); try go_wp2)
          go_roundg (gk - 1)
          case measure => omega
          case rel => exact ⟨i + 1, rfl, by omega, ⟨by rw [take_snoc hlt, take_snoc hlt', HE.out, HE2.out]⟩, ⟨⟨_, rfl⟩⟩⟩
        · have e1 : (nth l i == nth l' i) = false := beq_eq_false_iff_ne.mpr he
          have e2 : (nth l i != nth l' i) = true := bne_iff_ne.mpr he
          have HE2 : Aside0 (l ≠ l') := ⟨fun h => he (by rw [h])⟩
          go_wp2
          repeat (go_quiet (fail); try go_wp2)
          go_ret
          exact ⟨retB (decide_eq_false HE2.out).symm, by repeat (first | exact Drawn0.refl _ | apply Drawn0.step)⟩
      · have hi' : i = l.length := by omega
        have HE2 : Aside0 (l = l') := ⟨by
          have h := HE.out
          rw [hi', List.take_length, HL.out, List.take_length] at h
          exact h⟩
        clear hi'
        go_wp2
        repeat (go_quiet (fail); try go_wp2)
        go_ret
        exact ⟨retB (decide_eq_true HE2.out).symm, by repeat (first | exact Drawn0.refl _ | apply Drawn0.step)⟩
  · have c1 : ((l.length : Int) != (l'.length : Int)) = true := by simp; omega
    have c2 : ((l.length : Int) == (l'.length : Int)) = false := by simp; omega
    have c3 : (l.length == l'.length) = false := by simp; omega
    have HE2 : Aside0 (l ≠ l') := ⟨fun h => hl (by rw [h])⟩
    clear hl
    go_enter Try.func13, Try.ntmps13
    go_wp2
    go_ret
    exact ⟨retB (decide_eq_false HE2.out).symm, Drawn0.refl _⟩
theorem same_yes (A : Option Addr) (n c : Nat) (l : List Int) (A' : Option Addr) (n' c' : Nat) (l' : List Int) (w : World) (hr : RdN w A n l) (hr' : RdN w A' n' l') (h : l = l') :
    Calls Try.prog 13 #[.slice A n c, .slice A' n' c'] w fun e w' => e = .returned (.bool true) ∧ Drawn0 w w' := by
  have := same_any A n c l A' n' c' l' w hr hr'
  rw [decide_eq_true h] at this
  exact this
theorem same_no (A : Option Addr) (n c : Nat) (l : List Int) (A' : Option Addr) (n' c' : Nat) (l' : List Int) (w : World) (hr : RdN w A n l) (hr' : RdN w A' n' l') (h : l ≠ l') :
    Calls Try.prog 13 #[.slice A n c, .slice A' n' c'] w fun e w' => e = .returned (.bool false) ∧ Drawn0 w w' := by
  have := same_any A n c l A' n' c' l' w hr hr'
  rw [decide_eq_false h] at this
  exact this

/-! wire.Get, Get -/
theorem get_no (A : Option Addr) (n c : Nat) (l : List Int) (w : World) (hr : RdN w A n l) (h : n < 1 ∨ 8 < n) :
    Calls Try.prog 15 #[.slice A n c] w fun e w' => e = .returned (.tuple #[.int .u64 0, .bool false]) ∧ w = w' := by
  obtain rfl := C_len hr
  have hm := C_max hr
  rcases h with h | h
  · go_enter Try.func15, Try.ntmps15
    go_wp2
    go_ret2
    exact ⟨rfl, rfl⟩
  · have h1 : ¬ l.length < 1 := by omega
    go_enter Try.func15, Try.ntmps15
    go_wp2
    go_ret2
    exact ⟨rfl, rfl⟩
set_option maxHeartbeats 400000 in
theorem get_yes (A : Option Addr) (n c : Nat) (l : List Int) (w : World) (hr : RdN w A n l) (hy : Byt l) (h1 : 1 ≤ n) (h8 : n ≤ 8) :
    Calls Try.prog 15 #[.slice A n c] w fun e w' => e = .returned (.tuple #[.int .u64 (val l), .bool true]) ∧ w = w' := by
  obtain rfl := C_len hr
  have HR := Aside0.mk hr
  clear hr
  go_enter Try.func15, Try.ntmps15
  go_wp2
  go_loopg [4, 17] l.length (fun gk v4 v17 w' => ∃ i : Nat, v17 = .int .i64 i ∧ v4 = .int .u64 (val (l.take i)) ∧ i + gk = l.length ∧ w = w')
  case atStart => exact ⟨0, rfl, rfl, by omega, rfl⟩
  case round =>
    obtain ⟨i, rfl, rfl, hi, rfl⟩ := hrel
    by_cases hlt : i < l.length
    · obtain ⟨ad, rfl, hc⟩ := C_at HR.out i hlt
      obtain ⟨hs, hv0, hv1⟩ := val_step hy hlt h8
      have HS := Aside0.mk hs
      obtain ⟨hn0, hn1⟩ := hy.nth hlt
      clear hs
      have e1 := wrap_u64_in (val (l.take i) * 256) (by omega) (by omega)
      have e2 := wrap_u64_in (nth l i) (by omega) (by omega)
      have e3 := val_or (val (l.take i)) (nth l i) hv0 hv1 hn0 hn1
      clear hv1 hn1
      go_wp2
      go_roundg (gk - 1)
      case measure => omega
      case rel => exact ⟨i + 1, rfl, by rw [HS.out], by omega, rfl⟩
    · have hi' : Aside0 (l.take i = l) := ⟨List.take_of_length_le (by omega)⟩
      go_wp2
      go_ret2
      exact ⟨retIB (by rw [hi'.out]) rfl, rfl⟩
theorem get_any (A : Option Addr) (n c : Nat) (l : List Int) (w : World) (hr : RdN w A n l) (hy : Byt l) :
    Calls Try.prog 15 #[.slice A n c] w fun e w' => e = .returned (.tuple #[.int .u64 (getS l).1, .bool (getS l).2]) ∧ w = w' := by
  obtain rfl := C_len hr
  by_cases h : 1 ≤ l.length ∧ l.length ≤ 8
  · rw [getS, if_pos h]; exact get_yes A _ c l w hr hy h.1 h.2
  · rw [getS, if_neg h]; exact get_no A _ c l w hr (by omega)

theorem refget_no (A : Option Addr) (n c : Nat) (l : List Int) (w : World) (hr : RdN w A n l) (h : n < 1 ∨ 8 < n) :
    Calls Try.prog 16 #[.slice A n c] w fun e w' => e = .returned (.tuple #[.int .u64 0, .bool false]) ∧ w = w' := by
  obtain rfl := C_len hr
  have hm := C_max hr
  rcases h with h | h
  · go_enter Try.func16, Try.ntmps16
    go_wp2
    go_ret2
    exact ⟨rfl, rfl⟩
  · have h1 : ¬ l.length < 1 := by omega
    go_enter Try.func16, Try.ntmps16
    go_wp2
    go_ret2
    exact ⟨rfl, rfl⟩
set_option maxHeartbeats 400000 in
theorem refget_yes (A : Option Addr) (n c : Nat) (l : List Int) (w : World) (hr : RdN w A n l) (hy : Byt l) (h1 : 1 ≤ n) (h8 : n ≤ 8) :
    Calls Try.prog 16 #[.slice A n c] w fun e w' => e = .returned (.tuple #[.int .u64 (val l), .bool true]) ∧ w = w' := by
  obtain rfl := C_len hr
  have HR := Aside0.mk hr
  clear hr
  go_enter Try.func16, Try.ntmps16
  go_wp2
  go_loopg [4, 5] l.length (fun gk v4 v5 w' => ∃ i : Nat, v5 = .int .i64 i ∧ v4 = .int .u64 (val (l.take i)) ∧ i + gk = l.length ∧ w = w')
  case atStart => exact ⟨0, rfl, rfl, by omega, rfl⟩
  case round =>
    obtain ⟨i, rfl, rfl, hi, rfl⟩ := hrel
    by_cases hlt : i < l.length
    · obtain ⟨ad, rfl, hc⟩ := C_at HR.out i hlt
      obtain ⟨hs, hv0, hv1⟩ := val_step hy hlt h8
      have HS := Aside0.mk hs
      obtain ⟨hn0, hn1⟩ := hy.nth hlt
      clear hs
      have e1 := wrap_u64_in (val (l.take i) * 256) (by omega) (by omega)
      have e2 := wrap_u64_in (nth l i) (by omega) (by omega)
      have e3 := wrap_u64_in (val (l.take i) * 256 + nth l i) (by omega) (by omega)
      clear hv1 hn1
      go_wp2
      go_roundg (gk - 1)
      case measure => omega
      case rel => exact ⟨i + 1, rfl, by rw [HS.out], by omega, rfl⟩
    · have hi' : Aside0 (l.take i = l) := ⟨List.take_of_length_le (by omega)⟩
      go_wp2
      go_ret2
      exact ⟨retIB (by rw [hi'.out]) rfl, rfl⟩
theorem refget_any (A : Option Addr) (n c : Nat) (l : List Int) (w : World) (hr : RdN w A n l) (hy : Byt l) :
    Calls Try.prog 16 #[.slice A n c] w fun e w' => e = .returned (.tuple #[.int .u64 (getS l).1, .bool (getS l).2]) ∧ w = w' := by
  obtain rfl := C_len hr
  by_cases h : 1 ≤ l.length ∧ l.length ≤ 8
  · rw [getS, if_pos h]; exact refget_yes A _ c l w hr hy h.1 h.2
  · rw [getS, if_neg h]; exact refget_no A _ c l w hr (by omega)

/-! Put of the reference -/
theorem refput_no (n s : Int) (w : World) (h : s < 1 ∨ 8 < s) :
    Calls Try.prog 18 #[.int .u64 n, .int .i64 s] w fun e w' => e = .returned (.slice none 0 0) ∧ w = w' := by
  rcases h with h | h
  · go_enter Try.func18, Try.ntmps18
    go_wp2
    go_ret
    exact ⟨rfl, rfl⟩
  · have h1 : ¬ s < 1 := by omega
    go_enter Try.func18, Try.ntmps18
    go_wp2
    go_ret
    exact ⟨rfl, rfl⟩
set_option maxHeartbeats 400000 in
theorem refput_yes (n : Int) (s : Nat) (w : World) (h1 : 1 ≤ s) (h8 : s ≤ 8) (hn : 0 ≤ n) (hn64 : n < 2 ^ 64) :
    Calls Try.prog 18 #[.int .u64 n, .int .i64 s] w fun e w' => ∃ v, e = .returned v ∧ OwB w' w.heap.size v (put n s) ∧ Below w.heap.size w w' := by
  have g1 : ¬ (s : Int) < 1 := by omega
  have g2 : ¬ (s : Int) > 8 := by omega
  have HB := Aside0.mk (Below.refl w.heap.size w)
  have HN := Aside0.mk hn64
  clear hn64
  go_enter Try.func18, Try.ntmps18
  go_wp2
  go_loopg [0, 5, 6] s (fun gk v0 v5 v6 w' => ∃ (i : Nat) (m : Int) (y : List Int), v6 = .int .i64 i ∧ v0 = .int .u64 m ∧ i + gk = s ∧ Aside0 (m = n / 2 ^ (8 * i) ∧ y = put n i) ∧ Aside0 (OwB w' w.heap.size v5 y) ∧ Aside0 (Below w.heap.size w w'))
  case atStart => exact ⟨0, n, [], rfl, rfl, by omega, ⟨by simp, rfl⟩, ⟨Kd.R_nil _ _ _ _ _⟩, HB⟩
  case round =>
    clear HB
    obtain ⟨i, m, y, rfl, rfl, hi, HM, HO, HB⟩ := hrel
    by_cases hlt : i < s
    · have c1 : (i : Int) < s := by omega
      have hm0 : 0 ≤ m := by rw [HM.out.1]; exact Int.ediv_nonneg hn (Int.pow_nonneg (by decide))
      have hm1 : m < 2 ^ 64 := by rw [HM.out.1]; exact Int.lt_of_le_of_lt (Int.ediv_le_self _ hn) HN.out
      have e1 : IntKind.u64.wrap (m.tdiv 256) = m / 256 := by rw [Int.tdiv_eq_ediv_of_nonneg hm0, wrap_u64_in (m / 256) (by omega) (by omega)]
      clear hm1
      have HY : Aside0 (y.length ≤ 8) := ⟨by rw [HM.out.2, put_len]; omega⟩
      obtain ⟨A, c, rfl, hcap, hr⟩ := Ow_slice HO.out
      have HR := Aside0.mk hr
      clear hr hcap
      go_wp2_with (first
        | ((with_reducible refine gate_dst (N := 21) rfl ?_); refine litB w.heap.size rfl (N := 21) rfl [m % 256] ?hr HB.out HB.out.size (by simp) ?_; (case hr => first | (go_simp; done) | (go_simp; rfl)); intro v1 w1 ho hb hn hbb; have HO1 := Aside0.mk ho; replace HR := Aside0.mk (Kd.C_below HR.out hbb); clear HB; have HB := Aside0.mk hb; clear ho hb hn hbb)
        | ((with_reducible refine gate_dst (N := 23) rfl ?_); refine appB w.heap.size rfl (.tmp 21) (.tmp 22) rfl rfl _ [m % 256] y A y.length c rfl rfl HO1.out HR.out HB.out HB.out.size (by have := HY.out; simp; omega) ?_; intro v2 w2 ho hb hg hat; have HO2 := Aside0.mk ho; clear HB; have HB := Aside0.mk hb; clear ho hb hg hat))
      go_roundg (gk - 1)
      case measure => omega
      case rel =>
        refine ⟨i + 1, m / 256, [m % 256] ++ y, rfl, rfl, by omega, ⟨?_, ?_⟩, HO2, HB⟩
        · rw [HM.out.1, Nat.mul_succ, Int.pow_add, Int.ediv_ediv_of_nonneg (Int.pow_nonneg (by decide))]; rfl
        · rw [HM.out.1, HM.out.2, put_cons]; rfl
    · obtain rfl : i = s := by omega
      go_wp2
      go_ret
      exact ⟨_, rfl, by rw [← HM.out.2]; exact HO.out, HB.out⟩
theorem refput_any (n s : Int) (w : World) (hn : 0 ≤ n) (hn64 : n < 2 ^ 64) :
    Calls Try.prog 18 #[.int .u64 n, .int .i64 s] w fun e w' => ∃ v, e = .returned v ∧ OwB w' w.heap.size v (putS n s) ∧ Below w.heap.size w w' := by
  by_cases h : 1 ≤ s ∧ s ≤ 8
  · obtain ⟨m, rfl⟩ := Int.eq_ofNat_of_zero_le (show 0 ≤ s by omega)
    refine (refput_yes n m w (by omega) (by omega) hn hn64).mono ?_
    rintro e w' ⟨v, rfl, ho, hb⟩
    exact ⟨v, rfl, by rw [putS, if_pos h]; simpa using ho, hb⟩
  · refine (refput_no n s w (by omega)).mono ?_
    rintro e w' ⟨rfl, rfl⟩
    exact ⟨_, rfl, by rw [putS, if_neg h]; exact Kd.R_nil _ _ _ _ _, Below.refl _ _⟩

/-! wire.Xor -/
set_option maxHeartbeats 400000 in
theorem xor_any (A : Option Addr) (n c : Nat) (l : List Int) (A' : Option Addr) (n' c' : Nat) (l' : List Int) (w : World) (hr : RdN w A n l) (hr' : RdN w A' n' l') (hl : n ≤ 140737488351232) (hl' : n' ≤ 140737488351232) :
    Calls Try.prog 12 #[.slice A n c, .slice A' n' c'] w fun e w' => ∃ v, e = .returned v ∧ OwB w' w.heap.size v (xorS l l') ∧ Below w.heap.size w w' := by
  obtain rfl := C_len hr
  obtain rfl := C_len hr'
  obtain ⟨s, hs⟩ : ∃ s, s = min l.length l'.length := ⟨_, rfl⟩
  have g0 := Aside0.mk (show (l'.length < l.length ∧ s = l'.length) ∨ (¬ l'.length < l.length ∧ s = l.length) by omega)
  have g3 : 0 ≤ (s : Int) := by omega
  have HS := Aside0.mk hs
  have HR := Aside0.mk hr
  have HR' := Aside0.mk hr'
  have hs1 : s ≤ 140737488351232 := by omega
  clear hs hr hr' hl hl'
  have HB := Aside0.mk (Below.refl w.heap.size w)
  go_enter Try.func12, Try.ntmps12
  go_wp2_with (first
    | ((with_reducible refine gate_dst (N := 11) rfl ?_); refine Kd.event_run (v := .int .i64 s) (w1 := w) rfl ?hm ?_; (case hm => clear HB; exact Or.elim g0.out (fun h => by obtain ⟨h1, h2⟩ := h; subst h2; go_simp) (fun h => by obtain ⟨h1, h2⟩ := h; subst h2; go_simp)); clear g0)
    | ((with_reducible refine gate_dst (N := 12) rfl ?_); refine Kd.R_make (Kd.int .u8) _ 5 rfl (N := 12) rfl 22 _ _ rfl s rfl rfl Try.underlying22 (.int .u8 0) 1 infoU8 rfl (by decide) (by omega) 0 (ok := fun _ => True) (okp := fun _ => True) rfl (fun _ hk => hk) trivial g3 (by omega) (Below.refl _ _) (Nat.le_refl _) ?_; intro v w1 ho hb hg hn; clear hg hn; have HO := Aside0.mk ho; replace HB := Aside0.mk hb; clear ho hb; obtain ⟨A, c, rfl⟩ := Kd.R_slice HO.out))
  have e0 : (List.replicate (s : Int).toNat 0 : List Int) = xorAt l l' 0 := by rw [xorAt_zero, HS.out]; simp
  rw [e0] at HO
  clear e0 g3
  go_loopg [15] s (fun gk v15 w' => ∃ i : Nat, v15 = .int .i64 i ∧ i + gk = s ∧ Aside0 (OwB w' w.heap.size (.slice A s c) (xorAt l l' i)) ∧ Aside0 (Below w.heap.size w w'))
  case atStart =>
    refine ⟨0, rfl, by omega, ?_, HB⟩
    rw [xorAt_len _ _ _ (by omega), ← HS.out] at HO
    exact HO
  case round =>
    clear HO HB
    obtain ⟨i, rfl, hi, HO, HB⟩ := hrel
    by_cases hlt : i < s
    · have c1 : (i : Int) < s := by omega
      have hmin : i < min l.length l'.length := by rw [← HS.out]; exact hlt
      have hi1 : i < l.length := by omega
      have hi2 : i < l'.length := by omega
      have l1 := xorAt_len l l' i (by omega)
      obtain ⟨g, c', eo, gb, gl, cl, HG⟩ := Kd.R_form HO.out (by omega)
      injection eo with ea en ec
      subst ea ec
      clear en
      have l2 := Aside0.mk l1
      have HMIN := Aside0.mk hmin
      clear l1 hmin
      obtain ⟨ad, rfl, hc1⟩ := C_at (Kd.C_below HR.out HB.out) i hi1
      obtain ⟨ad', rfl, hc2⟩ := C_at (Kd.C_below HR'.out HB.out) i hi2
      obtain ⟨hc, hf⟩ := R_at HO.out i (by omega)
      have HP := Aside0.mk (R_put' HO.out i (xor8 (nth l i) (nth l' i)))
      go_wp2_with (fail)
      go_region
      go_wp2
      go_roundg (gk - 1)
      case measure => omega
      case rel => exact ⟨i + 1, rfl, by omega, ⟨by rw [← xorAt_set l l' i HMIN.out]; (with_reducible repeat (first | apply Kd.R_drewN | apply Kd.R_drew)); exact HP.out⟩, ⟨by (repeat (first | apply below_drew | apply pw_below_drewN)); exact below_set HB.out gb⟩⟩
    · obtain rfl : i = s := by omega
      go_wp2
      go_ret
      exact ⟨_, rfl, by rw [← xorAt_all, ← HS.out]; exact HO.out, HB.out⟩

/-! Xor of the reference -/
set_option maxHeartbeats 800000 in
set_option maxRecDepth 100000 in
theorem refxor_any (A : Option Addr) (n c : Nat) (l : List Int) (A' : Option Addr) (n' c' : Nat) (l' : List Int) (w : World) (hr : RdN w A n l) (hr' : RdN w A' n' l') (hl : n ≤ 140737488351232) (hl' : n' ≤ 140737488351232) (hy : Byt l) (hy' : Byt l') :
    Calls Try.prog 14 #[.slice A n c, .slice A' n' c'] w fun e w' => ∃ v, e = .returned v ∧ OwB w' w.heap.size v (xorS l l') ∧ Below w.heap.size w w' := by
  obtain rfl := C_len hr
  obtain rfl := C_len hr'
  have HR := Aside0.mk hr
  have HR' := Aside0.mk hr'
  clear hr hr'
  have HB := Aside0.mk (Below.refl w.heap.size w)
  go_enter Try.func14, Try.ntmps14
  go_wp2
  go_loopg [5, 6] (min l.length l'.length) (fun gk v5 v6 w' => ∃ (i : Nat) (y : List Int), v6 = .int .i64 i ∧ i + gk = min l.length l'.length ∧ Aside0 (y = (xorS l l').take i) ∧ Aside0 (OwB w' w.heap.size v5 y) ∧ Aside0 (Below w.heap.size w w'))
  case atStart => exact ⟨0, [], rfl, by omega, ⟨rfl⟩, ⟨Kd.R_nil _ _ _ _ _⟩, HB⟩
  case round =>
    clear HB
    obtain ⟨i, y, rfl, hi, HY, HO, HB⟩ := hrel
    by_cases hlt : i < min l.length l'.length
    · have hi1 : i < l.length := by omega
      have hi2 : i < l'.length := by omega
      obtain ⟨ad, rfl, hc1⟩ := C_at (Kd.C_below HR.out HB.out) i hi1
      obtain ⟨ad', rfl, hc2⟩ := C_at (Kd.C_below HR'.out HB.out) i hi2
      have hb1 := hy.nth hi1
      have hb2 := hy'.nth hi2
      obtain ⟨a, ha⟩ := Int.eq_ofNat_of_zero_le hb1.1
      obtain ⟨b, hb⟩ := Int.eq_ofNat_of_zero_le hb2.1
      rw [ha] at hc1 hb1
      rw [hb] at hc2 hb2
      have HAB := Aside0.mk (And.intro ha hb)
      clear ha hb
      have HX : Aside0 (a ^^^ b < 256) := ⟨Nat.xor_lt_two_pow (n := 8) (by omega) (by omega)⟩
      have hylen : y.length = i := by rw [HY.out, List.length_take, xorS_len]; omega
      have HL := Aside0.mk hylen
      clear hylen
      obtain ⟨wo, rfl⟩ : ∃ wo : World, wo = wr := ⟨_, rfl⟩
      obtain ⟨go, rfl⟩ : ∃ go : Nat, go = gk := ⟨_, rfl⟩
      go_wp2
      go_loopg [7, 8, 9, 10, 11] 8 (fun gk v7 v8 v9 v10 v11 w' => ∃ (j a' b' n : Nat) (p : Int), v7 = .int .u8 a' ∧ v8 = .int .u8 b' ∧ v9 = .int .u8 n ∧ v10 = .int .u8 p ∧ v11 = .int .i64 j ∧ j + gk = 8 ∧ Aside0 (a' < 2 ^ (8 - j) ∧ b' < 2 ^ (8 - j) ∧ n + 2 ^ j * (a' ^^^ b') = a ^^^ b ∧ (j < 8 → p = 2 ^ j)) ∧ wo = w')
      case atStart => exact ⟨0, a, b, 0, 1, rfl, rfl, rfl, rfl, rfl, by omega, ⟨xor_start hb1.2 hb2.2⟩, rfl⟩
      case round =>
        obtain ⟨j, a', b', n, p, rfl, rfl, rfl, rfl, rfl, hj, HJ, rfl⟩ := hrel
        by_cases hj8 : j < 8
        · obtain ⟨h1, h2, h3, h4, h5, h6⟩ := xor_round hj8 HJ.out.1 HJ.out.2.1 HJ.out.2.2.1 HX.out
          have ep : p = ((2 ^ j : Nat) : Int) := by rw [HJ.out.2.2.2 hj8]; simp
          have hp6 : ((2 ^ j : Nat) : Int) < 256 := by exact_mod_cast h6
          have hpj : j + 1 < 8 → (((2 ^ j : Nat) : Int) * 2) % 256 = 2 ^ (j + 1) := by
            intro hj2
            have : 2 ^ (j + 1) < 2 ^ 8 := Nat.pow_lt_pow_right (by decide) hj2
            rw [Nat.pow_succ] at this
            rw [Int.pow_succ]
            have e : ((2 ^ j : Nat) : Int) = (2 : Int) ^ j := by simp
            rw [← e]
            omega
          obtain ⟨q, hq⟩ : ∃ q : Nat, q = 2 ^ j := ⟨_, rfl⟩
          rw [← hq] at ep hp6 hpj h1 h5
          subst ep
          have H := Aside0.mk (And.intro h1 (And.intro h2 (And.intro h3 (And.intro hpj hq))))
          have ha' : (a' : Int) < 256 := by
            have e3 : 2 ^ (8 - j) ≤ 2 ^ 8 := Nat.pow_le_pow_right (by decide) (by omega)
            have := HJ.out.1
            omega
          have hb' : (b' : Int) < 256 := by
            have e3 : 2 ^ (8 - j) ≤ 2 ^ 8 := Nat.pow_le_pow_right (by decide) (by omega)
            have := HJ.out.2.1
            omega
          clear h1 h2 h3 hpj hq HJ h6
          by_cases hab : a' % 2 = b' % 2
          · have c1 : ((a' : Int) % 2 != (b' : Int) % 2) = false := bne_eq_false_iff_eq.mpr (by omega)
            have c2 : ((a' : Int) % 2 == (b' : Int) % 2) = true := beq_iff_eq.mpr (by omega)
            have H2 := Aside0.mk (And.intro H.out hab)
            clear hab H h5
            go_wp2
            go_roundg (gk - 1)
            case measure => omega
            case rel =>
              obtain ⟨⟨k1, k2, k3, k4, k5⟩, hab⟩ := H2.out
              exact ⟨j + 1, a' / 2, b' / 2, n, _, by go_num, by go_num, rfl, rfl, by go_num, by omega, ⟨k2, k3, by rw [if_pos hab] at k1; exact k1, k4⟩, rfl⟩
          · have c1 : ((a' : Int) % 2 != (b' : Int) % 2) = true := bne_iff_ne.mpr (by omega)
            have c2 : ((a' : Int) % 2 == (b' : Int) % 2) = false := beq_eq_false_iff_ne.mpr (by omega)
            rw [if_neg hab] at h5
            have h5' : (n : Int) + q < 256 := by omega
            have H2 := Aside0.mk (And.intro H.out hab)
            clear hab H h5
            go_wp2
            go_roundg (gk - 1)
            case measure => omega
            case rel =>
              obtain ⟨⟨k1, k2, k3, k4, k5⟩, hab⟩ := H2.out
              exact ⟨j + 1, a' / 2, b' / 2, n + q, _, by go_num, by go_num, by go_num, rfl, by go_num, by omega, ⟨k2, k3, by rw [if_neg hab] at k1; exact k1, k4⟩, rfl⟩
        · obtain rfl : j = 8 := by omega
          have hn : Aside0 (xor8 (nth l i) (nth l' i) = n) := ⟨by
            obtain ⟨k1, k2, k3, _⟩ := HJ.out
            obtain rfl : a' = 0 := by omega
            obtain rfl : b' = 0 := by omega
            rw [HAB.out.1, HAB.out.2, xor8_nat a b (by omega) (by omega), ← k3]
            simp⟩
          clear HJ
          obtain ⟨A0, c0, rfl, hcap, hr0⟩ := Ow_slice HO.out
          clear hcap hr0
          go_wp2_with (first
            | ((with_reducible refine gate_dst (N := 52) rfl ?_); refine litB w.heap.size rfl (N := 52) rfl [(n : Int)] ?hr HB.out HB.out.size (by simp) ?_; (case hr => first | (go_simp; done) | (go_simp; rfl)); intro v1 w1 ho hb hn hbb; have HO1 := Aside0.mk ho; replace HO := Aside0.mk (Kd.R_below HO.out hbb); clear HB; have HB := Aside0.mk hb; clear ho hb hn hbb; obtain ⟨A1, c1, rfl, _, hr1⟩ := Ow_slice HO1.out; have HR1 := Aside0.mk hr1; clear hr1)
            | ((with_reducible refine gate_dst (N := 53) rfl ?_); refine appB w.heap.size rfl (.tmp 50) (.tmp 52) rfl rfl _ y [(n : Int)] A1 1 c1 rfl rfl HO.out HR1.out HB.out HB.out.size (by have := HL.out; omega) ?_; intro v2 w2 ho hb hg hat; have HO2 := Aside0.mk ho; clear HB; have HB := Aside0.mk hb; clear ho hb hg hat))
          go_roundg (go - 1)
          case measure => omega
          case rel => exact ⟨i + 1, y ++ [(n : Int)], rfl, by omega, ⟨by rw [take_snoc (by rw [xorS_len]; exact hlt), xorS_nth hlt, hn.out, HY.out]⟩, HO2, HB⟩
    · have hi' : Aside0 (y = xorS l l') := ⟨by rw [HY.out, List.take_of_length_le (by rw [xorS_len]; omega)]⟩
      by_cases hl1 : i < l.length
      · go_wp2
        go_ret
        exact ⟨_, rfl, by rw [← hi'.out]; exact HO.out, HB.out⟩
      · go_wp2
        go_ret
        exact ⟨_, rfl, by rw [← hi'.out]; exact HO.out, HB.out⟩

/-! wire.Frame -/
set_option maxHeartbeats 800000 in
theorem frame_yes (A : Option Addr) (n c : Nat) (l : List (List Int)) (w : World) (hr : Kd.C Rw w A n l) (hp : ∀ p ∈ l, p.length ≤ 65535) (hl : n ≤ 1000000) :
    Calls Try.prog 19 #[.slice A n c] w fun e w' => ∃ v, e = .returned (.tuple #[v, .bool true]) ∧ OwB w' w.heap.size v (frm l) ∧ Below w.heap.size w w' := by
  obtain rfl := C_len hr
  have HR := Aside0.mk hr
  clear hr
  have HB := Aside0.mk (Below.refl w.heap.size w)
  go_enter Try.func19, Try.ntmps19
  go_wp2
  go_loopg [4, 9] l.length (fun gk v4 v9 w' => ∃ (i : Nat) (y : List Int), v9 = .int .i64 i ∧ i + gk = l.length ∧ Aside0 (y = frm (l.take i)) ∧ Aside0 (OwB w' w.heap.size v4 y) ∧ Aside0 (Below w.heap.size w w'))
  case atStart => exact ⟨0, [], rfl, by omega, ⟨rfl⟩, ⟨Kd.R_nil _ _ _ _ _⟩, HB⟩
  case round =>
    clear HB
    obtain ⟨i, y, rfl, hi, HY, HO, HB⟩ := hrel
    by_cases hlt : i < l.length
    · obtain ⟨ad, A0, c0, rfl, hcw, hl0, hr0⟩ := C_row HR.out i hlt
      have hc := pw_cell_below HB.out hcw
      clear hcw
      have HR0 := Aside0.mk hr0
      have hpl : (nthR l i).length ≤ 65535 := hp _ (nthR_mem hlt)
      have HL : Aside0 (y.length ≤ i * 65537) := ⟨by
        rw [HY.out]
        refine Nat.le_trans (frm_len (m := 65535) (fun p hq => hp p (List.mem_of_mem_take hq))) ?_
        rw [List.length_take]
        exact Nat.mul_le_mul_right _ (by omega)⟩
      obtain ⟨p, hpe⟩ : ∃ p, p = nthR l i := ⟨_, rfl⟩
      rw [← hpe] at hc hl0 HR0 hpl
      have HP := Aside0.mk hpe
      clear hr0 hl0 hpe
      go_wp2_with (first
        | (go_at_call 17; refine (put_any _ 2 _).mono ?_; rintro e w1 ⟨v1, rfl, ho, hb⟩; obtain ⟨A1, c1, rfl, _, hr1⟩ := Ow_slice ho; have HR1 := Aside0.mk hr1; replace HO := Aside0.mk (Kd.R_below HO.out hb); replace HB := Aside0.mk (HB.out.trans (hb.mono HB.out.size)); clear ho hb hr1)
        | ((with_reducible refine gate_dst (N := 21) rfl ?_); refine appB w.heap.size rfl (.tmp 16) (.tmp 20) rfl rfl _ y (putS p.length 2) A1 _ c1 rfl rfl HO.out HR1.out HB.out HB.out.size (by have := HL.out; rw [putS_two, put_len]; omega) ?_; intro v2 w2 ho2 hb2 hg2 hat2; clear HO HB; have HO := Aside0.mk ho2; have HB := Aside0.mk hb2; clear ho2 hb2 hg2 hat2)
        | ((with_reducible refine gate_dst (N := 24) rfl ?_); refine appB w.heap.size rfl (.tmp 22) (.tmp 23) rfl rfl _ (y ++ putS p.length 2) p A0 _ c0 rfl rfl HO.out (Kd.C_below HR0.out HB.out) HB.out HB.out.size (by have := HL.out; rw [List.length_append, putS_two, put_len]; omega) ?_; intro v3 w3 ho3 hb3 hg3 hat3; clear HO HB; have HO := Aside0.mk ho3; have HB := Aside0.mk hb3; clear ho3 hb3 hg3 hat3))
      go_roundg (gk - 1)
      case measure => omega
      case rel => exact ⟨i + 1, (y ++ putS p.length 2) ++ p, rfl, by omega, ⟨by rw [frm_snoc hlt, ← HY.out, ← HP.out, putS_two, List.append_assoc]; rfl⟩, HO, HB⟩
    · have hi' : Aside0 (y = frm l) := ⟨by rw [HY.out, List.take_of_length_le (by omega)]⟩
      go_wp2
      go_ret2
      exact ⟨_, rfl, by rw [← hi'.out]; exact HO.out, HB.out⟩

/-! awake: what the document tells -/
set_option maxHeartbeats 800000 in
theorem awake_any (w : World) :
    Calls Try.prog 11 #[] w fun e w' => e = .returned (.bool true) ∧ Below w.heap.size w w' := by
  have HB := Aside0.mk (Below.refl w.heap.size w)
  go_enter Try.func11, Try.ntmps11
  go_wp2_with (first
    | ((with_reducible refine gate_dst (N := 4) rfl ?_); refine litB w.heap.size rfl (N := 4) rfl [7] ?hr HB.out HB.out.size (by simp) ?_; (case hr => first | (go_simp; done) | (go_simp; rfl)); intro v1 w1 ho hb hn hbb; have HO := Aside0.mk ho; clear HB; have HB := Aside0.mk hb; clear ho hb hn hbb; obtain ⟨A1, c1, rfl, hcap1, hr1⟩ := Ow_slice HO.out; have HR1 := Aside0.mk hr1; clear hr1)
    | ((with_reducible refine gate_dst (N := 5) rfl ?_); refine litC Rw w.heap.size 22 rfl [[7], []] [.slice A1 1 c1, .slice none 0 0] ?hr (Reps.one (K_row hcap1 HR1.out) (Reps.one (K_row (Nat.le_refl _) (RdB_nil _)) (Reps.none _ _))) HB.out HB.out.size (by simp) ?_; (case hr => first | (go_simp; done) | (go_simp; rfl)); intro w2 hb hbb hr2; have HR2 := Aside0.mk hr2; clear HB; have HB := Aside0.mk hb; clear hr2 hb hbb)
    | (go_at_call 19; refine (frame_yes _ _ _ [[7], []] _ HR2.out (by simp) (by simp)).mono ?_; rintro e w3 ⟨v3, rfl, ho, hb⟩; rw [frm_awake] at ho; obtain ⟨A3, c3, rfl, hcap3, hr3⟩ := Ow_slice ho; have HR3 : Aside0 (RdN w3 A3 5 [0, 1, 7, 0, 0]) := ⟨hr3⟩; replace HB := Aside0.mk (HB.out.trans (hb.mono HB.out.size)); clear hr3 ho hb)
    | ((with_reducible refine gate_dst (N := 12) rfl ?_); (try (refine gate_guard (by rfl) ?_; dsimp only)); refine litB w.heap.size rfl (N := 12) rfl [0, 1, 7, 0, 0] ?hr HB.out HB.out.size (by simp) ?_; (case hr => first | (go_simp; done) | (go_simp; rfl)); intro v4 w4 ho hb hn hbb; replace HR3 := Aside0.mk (Kd.C_below HR3.out hbb); clear HB; have HB := Aside0.mk hb; obtain ⟨A4, c4, rfl, hcap4, hr4⟩ := Ow_slice ho; have HR4 : Aside0 (RdN w4 A4 5 [0, 1, 7, 0, 0]) := ⟨hr4⟩; clear hr4 ho hb hn hbb)
    | (go_at_call 13; first | ((with_reducible refine (same_any _ _ _ _ _ _ _ _ _ HR3.out HR4.out).mono ?_); rintro e w5 ⟨rfl, hd⟩; replace HB := Aside0.mk (drawn_below HB.out hd); clear hd) | ((with_reducible refine (same_any _ _ _ _ _ _ _ _ _ HR6.out HR7.out).mono ?_); rintro e w8 ⟨rfl, hd⟩; replace HB := Aside0.mk (drawn_below HB.out hd); clear hd))
    | (go_at_call 17; refine (put_any 258 3 _).mono ?_; rintro e w6 ⟨v6, rfl, ho, hb⟩; rw [put_awake] at ho; obtain ⟨A6, c6, rfl, hcap6, hr6⟩ := Ow_slice ho; have HR6 : Aside0 (RdN w6 A6 3 [0, 1, 2]) := ⟨hr6⟩; replace HB := Aside0.mk (HB.out.trans (hb.mono HB.out.size)); clear hr6 ho hb)
    | ((with_reducible refine gate_dst (N := 17) rfl ?_); (try (refine gate_guard (by rfl) ?_; dsimp only)); refine litB w.heap.size rfl (N := 17) rfl [0, 1, 2] ?hr HB.out HB.out.size (by simp) ?_; (case hr => first | (go_simp; done) | (go_simp; rfl)); intro v7 w7 ho hb hn hbb; replace HR6 := Aside0.mk (Kd.C_below HR6.out hbb); clear HB; have HB := Aside0.mk hb; obtain ⟨A7, c7, rfl, hcap7, hr7⟩ := Ow_slice ho; have HR7 : Aside0 (RdN w7 A7 3 [0, 1, 2]) := ⟨hr7⟩; clear hr7 ho hb hn hbb))
  go_ret
  exact ⟨rfl, HB.out⟩
end Go.Proofs.Ytfbbnodlikcocaa.Wire
