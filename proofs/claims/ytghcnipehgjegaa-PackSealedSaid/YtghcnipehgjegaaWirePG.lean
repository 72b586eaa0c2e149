/- What wire.Put and wire.Get answer, for every argument that can be read. No other conditions. -/
import Derived.Test.YtghcnipehgjegaaBytes
import Derived.Test.YtghcnipehgjegaaPlain
namespace Go.Proofs.Ytghcnipehgjegaa.Wire
open Go.RowKit Go.Proofs.YtghcnipehgjegaaW.PrintWords Go.Proofs.YtghcnipehgjegaaW.PrintLast Go.Proofs.YtghcnipehgjegaaW.PrintMore Go.Proofs.Ytghcnipehgjegaa.Kit Go.Proofs.Ytghcnipehgjegaa.Plain
attribute [local go_sem] max2_int min2_int max_two min_two max_three min_three
set_option linter.unusedVariables false
set_option linter.unusedSimpArgs false

/-! wire.Put -/
theorem put_no (n s : Int) (w : World) (h : s < 1 ∨ 8 < s) :
    Calls Try.prog 30 #[.int .u64 n, .int .i64 s] w fun e w' => e = .returned (.slice none 0 0) ∧ w = w' := by
  rcases h with h | h
  · go_enter Try.func30, Try.ntmps30
    go_wp2
    go_ret
    exact ⟨rfl, rfl⟩
  · have h1 : ¬ s < 1 := by omega
    go_enter Try.func30, Try.ntmps30
    go_wp2
    go_ret
    exact ⟨rfl, rfl⟩
set_option maxHeartbeats 400000 in
theorem put_yes (n : Int) (s : Nat) (w : World) (h1 : 1 ≤ s) (h8 : s ≤ 8) :
    Calls Try.prog 30 #[.int .u64 n, .int .i64 s] w fun e w' => ∃ v, e = .returned v ∧ OwB w' w.heap.size v (put n s) ∧ Below w.heap.size w w' := by
  have g1 : ¬ (s : Int) < 1 := by omega
  have g2 : ¬ (s : Int) > 8 := by omega
  have g3 : 0 ≤ (s : Int) := by omega
  have g4 : (s : Int).toNat ≤ 281474976710656 := by omega
  have HB := Aside0.mk (Below.refl w.heap.size w)
  go_enter Try.func30, Try.ntmps30
  go_wp2_with (first | ((with_reducible refine gate_dst (N := 14) rfl ?_); refine Kd.R_make (Kd.int .u8) _ 5 rfl (N := 14) rfl 28 _ _ rfl s rfl rfl Try.underlying28 (.int .u8 0) 1 infoU8 rfl (by decide) (by omega) 0 (ok := fun _ => True) (okp := fun _ => True) rfl (fun _ hk => hk) trivial g3 (by omega) (Below.refl _ _) (Nat.le_refl _) ?_; intro v w1 ho hb hg hn; clear hg hn; have HO := Aside0.mk ho; replace HB := Aside0.mk hb; clear ho hb; obtain ⟨A, c, rfl⟩ := Kd.R_slice HO.out))
  have e0 : (List.replicate (s : Int).toNat 0 : List Int) = putAt n s 0 := by simp [putAt]
  rw [e0] at HO
  clear e0 g3 g4
  go_loopg [17] s (fun gk v17 w' => ∃ i : Nat, v17 = .int .i64 i ∧ i + gk = s ∧ Aside0 (OwB w' w.heap.size (.slice A s c) (putAt n s i)) ∧ Aside0 (Below w.heap.size w w'))
  case atStart =>
    refine ⟨0, rfl, by omega, ?_, HB⟩
    rw [putAt_len _ _ _ (by omega)] at HO
    exact HO
  case round =>
    clear HO HB
    obtain ⟨i, rfl, hi, HO, HB⟩ := hrel
    by_cases hlt : i < s
    · have c1 : (i : Int) < s := by omega
      have l1 := putAt_len n s i (by omega)
      obtain ⟨g, c', eo, gb, gl, cl, HG⟩ := Kd.R_form HO.out (by omega)
      injection eo with ea en ec
      subst ea ec
      clear en
      have l2 := Aside0.mk l1
      clear l1
      obtain ⟨hc, hf⟩ := R_at HO.out i (by omega)
      have HP := Aside0.mk (R_put' HO.out i (dig n s i))
      go_wp2_with (fail)
      go_roundg (gk - 1)
      case measure => omega
      case rel => exact ⟨i + 1, rfl, by omega, ⟨by rw [← putAt_set n s i hlt]; exact HP.out⟩, ⟨below_set HB.out gb⟩⟩
    · obtain rfl : i = s := by omega
      go_wp2
      go_ret
      exact ⟨_, rfl, by rw [← putAt_all]; exact HO.out, HB.out⟩
theorem put_any (n s : Int) (w : World) :
    Calls Try.prog 30 #[.int .u64 n, .int .i64 s] w fun e w' => ∃ v, e = .returned v ∧ OwB w' w.heap.size v (putS n s) ∧ Below w.heap.size w w' := by
  by_cases h : 1 ≤ s ∧ s ≤ 8
  · obtain ⟨m, rfl⟩ := Int.eq_ofNat_of_zero_le (show 0 ≤ s by omega)
    refine (put_yes n m w (by omega) (by omega)).mono ?_
    rintro e w' ⟨v, rfl, ho, hb⟩
    exact ⟨v, rfl, by rw [putS, if_pos h]; simpa using ho, hb⟩
  · refine (put_no n s w (by omega)).mono ?_
    rintro e w' ⟨rfl, rfl⟩
    exact ⟨_, rfl, by rw [putS, if_neg h]; exact Kd.R_nil _ _ _ _ _, Below.refl _ _⟩

/-! wire.Get, Get -/
theorem get_no (A : Option Addr) (n c : Nat) (l : List Int) (w : World) (hr : RdN w A n l) (h : n < 1 ∨ 8 < n) :
    Calls Try.prog 32 #[.slice A n c] w fun e w' => e = .returned (.tuple #[.int .u64 0, .bool false]) ∧ w = w' := by
  obtain rfl := C_len hr
  have hm := C_max hr
  rcases h with h | h
  · go_enter Try.func32, Try.ntmps32
    go_wp2
    go_ret2
    exact ⟨rfl, rfl⟩
  · have h1 : ¬ l.length < 1 := by omega
    go_enter Try.func32, Try.ntmps32
    go_wp2
    go_ret2
    exact ⟨rfl, rfl⟩
set_option maxHeartbeats 400000 in
theorem get_yes (A : Option Addr) (n c : Nat) (l : List Int) (w : World) (hr : RdN w A n l) (hy : Byt l) (h1 : 1 ≤ n) (h8 : n ≤ 8) :
    Calls Try.prog 32 #[.slice A n c] w fun e w' => e = .returned (.tuple #[.int .u64 (val l), .bool true]) ∧ w = w' := by
  obtain rfl := C_len hr
  have HR := Aside0.mk hr
  clear hr
  go_enter Try.func32, Try.ntmps32
  go_wp2
  go_loopg [4, 17] l.length (fun gk v4 v17 w' => ∃ i : Nat, v17 = .int .i64 i ∧ v4 = .int .u64 (val (l.take i)) ∧ i + gk = l.length ∧ w = w')
  case atStart => exact ⟨0, rfl, rfl, by omega, rfl⟩
  case round =>
    obtain ⟨i, rfl, rfl, hi, rfl⟩ := hrel
    by_cases hlt : i < l.length
    · obtain ⟨ad, rfl, hc⟩ := C_at HR.out i hlt
      obtain ⟨hs, hv0, hv1⟩ := val_step hy hlt h8
      have HS := Aside0.mk hs
      obtain ⟨hn0, hn1⟩ := hy.nth hlt
      clear hs
      have e1 := wrap_u64_in (val (l.take i) * 256) (by omega) (by omega)
      have e2 := wrap_u64_in (nth l i) (by omega) (by omega)
      have e3 := val_or (val (l.take i)) (nth l i) hv0 hv1 hn0 hn1
      clear hv1 hn1
      go_wp2
      go_roundg (gk - 1)
      case measure => omega
      case rel => exact ⟨i + 1, rfl, by rw [HS.out], by omega, rfl⟩
    · have hi' : Aside0 (l.take i = l) := ⟨List.take_of_length_le (by omega)⟩
      go_wp2
      go_ret2
      exact ⟨retIB (by rw [hi'.out]) rfl, rfl⟩
theorem get_any (A : Option Addr) (n c : Nat) (l : List Int) (w : World) (hr : RdN w A n l) (hy : Byt l) :
    Calls Try.prog 32 #[.slice A n c] w fun e w' => e = .returned (.tuple #[.int .u64 (getS l).1, .bool (getS l).2]) ∧ w = w' := by
  obtain rfl := C_len hr
  by_cases h : 1 ≤ l.length ∧ l.length ≤ 8
  · rw [getS, if_pos h]; exact get_yes A _ c l w hr hy h.1 h.2
  · rw [getS, if_neg h]; exact get_no A _ c l w hr (by omega)

end Go.Proofs.Ytghcnipehgjegaa.Wire
