/- The certificates of layer 53, in plain Lean: encP tells the bytes of one, decP what bytes tell; each undoes the other, and cut or longer bytes tell of none. -/
import Derived.Test.YtoojmbifkjocfaaProofCode
namespace Go.Proofs.Ytoojmbifkjocfaa.Proof
open Go.RowKit Go.Proofs.Ytoojmbifkjocfaa.Kit Go.Proofs.Ytoojmbifkjocfaa.Plain Go.Proofs.Ytoojmbifkjocfaa.Wire
set_option linter.unusedVariables false
set_option linter.unusedSimpArgs false
def lookS (p : Int × Bool) : List Int := put p.1 8 ++ [bitS p.2]
def looksS (L : List (Int × Bool)) : List Int := (L.map lookS).flatten
def encP (m : Int) (ok : Bool) (L : List (Int × Bool)) : List Int := [bitS ok] ++ (put m 8 ++ (put (L.length : Int) 2 ++ looksS L))
def lookAt (b : List Int) (i : Nat) : Int × Bool := (gv b (11 + 9 * i) 8, decide (gv b (19 + 9 * i) 1 = 1))
def oddAt (b : List Int) (i : Nat) : Bool := decide (1 < gv b (19 + 9 * i) 1)
def kP (b : List Int) : Nat := (gv b 9 2).toNat
def totP (b : List Int) : Nat := 11 + 9 * kP b
def oddP (b : List Int) : Bool := decide (1 < gv b 0 1) || (List.range (kP b)).any (oddAt b)
/-- What bytes tell: moment, whether there is one, the looks; the error's number. -/
def decP (b : List Int) : (Int × Bool × List (Int × Bool)) × Int :=
  if b.length < 11 then ((0, false, []), 14)
  else if b.length < totP b then ((0, false, []), 14)
  else if oddP b = true ∨ totP b < b.length then ((0, false, []), 3)
  else ((gv b 1 8, decide (gv b 0 1 = 1), (List.range (kP b)).map (lookAt b)), 0)
theorem decP_ok {b : List Int} {f : Int × Bool × List (Int × Bool)} (h : decP b = (f, 0)) :
    11 ≤ b.length ∧ totP b = b.length ∧ oddP b = false ∧ f = (gv b 1 8, decide (gv b 0 1 = 1), (List.range (kP b)).map (lookAt b)) := by
  unfold decP at h
  split at h
  · simp at h
  split at h
  · simp at h
  split at h
  · simp at h
  · rename_i h1 h2 h3
    simp only [Prod.mk.injEq, and_true] at h
    refine ⟨by omega, by omega, ?_, h.symm⟩
    cases ho : oddP b with
    | false => rfl
    | true => exact absurd (Or.inl ho) h3
theorem decP_no {b : List Int} {f : Int × Bool × List (Int × Bool)} {e : Int} (h : decP b = (f, e)) (he : e ≠ 0) : f = (0, false, []) ∧ (e = 14 ∨ e = 3) := by
  unfold decP at h
  split at h
  · simp only [Prod.mk.injEq] at h; exact ⟨h.1.symm, .inl h.2.symm⟩
  split at h
  · simp only [Prod.mk.injEq] at h; exact ⟨h.1.symm, .inl h.2.symm⟩
  split at h
  · simp only [Prod.mk.injEq] at h; exact ⟨h.1.symm, .inr h.2.symm⟩
  · simp only [Prod.mk.injEq] at h; exact absurd h.2.symm he
theorem decP_cut {b : List Int} {f : Int × Bool × List (Int × Bool)} (h : decP b = (f, 0)) (k : Nat) (hk : k < b.length) : decP (b.take k) = ((0, false, []), 14) := by
  obtain ⟨h1, h2, _, _⟩ := decP_ok h
  have hl : (b.take k).length = k := by rw [List.length_take]; omega
  unfold decP
  by_cases h11 : k < 11
  · rw [if_pos (by omega)]
  · have hkp : kP (b.take k) = kP b := by unfold kP; rw [gv_take b k 9 2 (by omega) (by omega)]
    rw [if_neg (by omega), if_pos (by unfold totP at h2 ⊢; rw [hkp]; omega)]
theorem gv_more (b q : List Int) (m n : Nat) (h : m + n ≤ b.length) : gv (b ++ q) m n = gv b m n := by
  have := gv_take (b ++ q) b.length m n h (by simp)
  rw [← this]
  congr 1
  simp
theorem decP_more {b : List Int} {f : Int × Bool × List (Int × Bool)} (h : decP b = (f, 0)) (x : Int) : decP (b ++ [x]) = ((0, false, []), 3) := by
  obtain ⟨h1, h2, _, _⟩ := decP_ok h
  have hl : (b ++ [x]).length = b.length + 1 := by simp
  have hkp : kP (b ++ [x]) = kP b := by unfold kP; rw [gv_more b [x] 9 2 (by omega)]
  have ht : totP (b ++ [x]) = b.length := by rw [← h2]; unfold totP; rw [hkp]
  unfold decP
  rw [if_neg (by omega), if_neg (by omega), if_pos (Or.inr (by omega))]
theorem bit_back {v : Int} (h0 : 0 ≤ v) (h1 : ¬ 1 < v) : bitS (decide (v = 1)) = v := by
  rcases (show v = 0 ∨ v = 1 by omega) with rfl | rfl <;> rfl
theorem one_back {b : List Int} {m : Nat} (hb : Byt b) (h : m + 1 ≤ b.length) (h1 : ¬ 1 < gv b m 1) : [bitS (decide (gv b m 1 = 1))] = (b.drop m).take 1 := by
  rw [bit_back (gv_range hb m 1).1 h1, gv_one (by omega)]
  rw [List.drop_eq_getElem_cons (by omega), List.take_succ_cons, List.take_zero]
  simp [nth, show m < b.length by omega]
theorem look_back {b : List Int} (hb : Byt b) (i : Nat) (h : 20 + 9 * i ≤ b.length) (ho : oddAt b i = false) : lookS (lookAt b i) = (b.drop (11 + 9 * i)).take 9 := by
  have h1 := of_decide_eq_false ho
  have hd : (b.drop (11 + 9 * i)).take 9 = (b.drop (11 + 9 * i)).take 8 ++ ((b.drop (11 + 9 * i)).drop 8).take 1 := by
    rw [← List.take_add]
  rw [hd, List.drop_drop, lookS, lookAt]
  simp only
  rw [gv_full hb (by omega), one_back hb (by omega) h1, show 11 + 9 * i + 8 = 19 + 9 * i by omega]
theorem looks_back {b : List Int} (hb : Byt b) : ∀ n : Nat, 11 + 9 * n ≤ b.length → (∀ i, i < n → oddAt b i = false) → looksS ((List.range n).map (lookAt b)) = (b.drop 11).take (9 * n)
  | 0, _, _ => by simp [looksS]
  | n + 1, h, ho => by
    have ih := looks_back hb n (by omega) (fun i hi => ho i (by omega))
    rw [List.range_succ, List.map_append, looksS, List.map_append, List.flatten_append]
    rw [looksS] at ih
    rw [ih, show 9 * (n + 1) = 9 * n + 9 by omega, List.take_add, List.drop_drop]
    simp [look_back hb n (by omega) (ho n (by omega))]
theorem enc_dec {b : List Int} {f : Int × Bool × List (Int × Bool)} (hb : Byt b) (h : decP b = (f, 0)) : encP f.1 f.2.1 f.2.2 = b ∧ f.2.2.length ≤ 65535 := by
  obtain ⟨h1, h2, h3, rfl⟩ := decP_ok h
  have hk := gv_range hb 9 2
  have hkk : ((kP b : Nat) : Int) = gv b 9 2 := by unfold kP; omega
  unfold oddP at h3
  rw [Bool.or_eq_false_iff] at h3
  have ho : ∀ i, i < kP b → oddAt b i = false := fun i hi => by
    have := List.any_eq_false.1 h3.2 i (List.mem_range.2 hi)
    simpa using this
  refine ⟨?_, by simp only [List.length_map, List.length_range]; omega⟩
  unfold encP
  simp only [List.length_map, List.length_range]
  unfold totP at h2
  rw [looks_back hb (kP b) (by omega) ho, hkk, gv_full hb (by omega), gv_full hb (by omega), one_back hb (by omega) (of_decide_eq_false h3.1)]
  rw [List.take_of_length_le (l := b.drop 11) (by rw [List.length_drop]; omega)]
  rw [cutJ b 9 2 11 rfl, cutJ b 1 8 9 rfl, cutJ b 0 1 1 rfl]
  rfl
theorem bitS_range (b : Bool) : 0 ≤ bitS b ∧ bitS b < 256 ∧ ¬ 1 < bitS b := by cases b <;> decide
theorem bitS_one (b : Bool) : decide (bitS b = 1) = b := by cases b <;> rfl
theorem lookS_len (p : Int × Bool) : (lookS p).length = 9 := by simp [lookS, put_len]
theorem looksS_cons (p : Int × Bool) (L : List (Int × Bool)) : looksS (p :: L) = lookS p ++ looksS L := by simp [looksS]
theorem looksS_len (L : List (Int × Bool)) : (looksS L).length = 9 * L.length := by
  induction L with
  | nil => rfl
  | cons p L ih => rw [looksS_cons, List.length_append, ih, lookS_len, List.length_cons]; omega
theorem encP_len (m : Int) (ok : Bool) (L : List (Int × Bool)) : (encP m ok L).length = 11 + 9 * L.length := by
  simp only [encP, List.length_append, put_len, looksS_len, List.length_cons, List.length_nil]; omega
theorem gv_bit (b : Bool) (q : List Int) : gv (bitS b :: q) 0 1 = bitS b := by
  rw [gv_one (by simp)]; rfl
/-- What stands at the i-th look. -/
theorem looks_at : ∀ (L : List (Int × Bool)) (i : Nat) (hi : i < L.length), (∀ p ∈ L, 0 ≤ p.1 ∧ p.1 < 2 ^ 64) → gv (looksS L) (9 * i) 8 = L[i].1 ∧ gv (looksS L) (9 * i + 8) 1 = bitS L[i].2
  | p :: L, 0, _, h => by
    have hp := h p (by simp)
    rw [looksS_cons, lookS, List.append_assoc]
    refine ⟨gv_here p.1 8 _ hp.1 hp.2, ?_⟩
    rw [gv_put p.1 8 _ _ 1 (by omega)]
    exact gv_bit p.2 _
  | p :: L, i + 1, hi, h => by
    have ih := looks_at L i (by simpa using hi) (fun q hq => h q (by simp [hq]))
    rw [looksS_cons, gv_skip _ _ _ _ (by rw [lookS_len]; omega), gv_skip _ _ _ _ (by rw [lookS_len]; omega), lookS_len]
    rw [show 9 * (i + 1) - 9 = 9 * i by omega, show 9 * (i + 1) + 8 - 9 = 9 * i + 8 by omega]
    simpa using ih
theorem dec_encP (m : Int) (ok : Bool) (L : List (Int × Bool)) (hm : 0 ≤ m ∧ m < 2 ^ 64) (hL : ∀ p ∈ L, 0 ≤ p.1 ∧ p.1 < 2 ^ 64) (hl : L.length ≤ 65535) : decP (encP m ok L) = ((m, ok, L), 0) := by
  have hlen := encP_len m ok L
  have g0 : gv (encP m ok L) 0 1 = bitS ok := gv_bit ok _
  have g1 : gv (encP m ok L) 1 8 = m := by
    rw [encP, gv_skip _ _ _ _ (by simp)]
    exact gv_here m 8 _ hm.1 hm.2
  have g9 : gv (encP m ok L) 9 2 = (L.length : Int) := by
    rw [encP, gv_skip _ _ _ _ (by simp), gv_put _ _ _ _ _ (by simp)]
    exact gv_here2 _ _ (by omega) (by omega)
  have gl : ∀ k n, gv (encP m ok L) (11 + k) n = gv (looksS L) k n := fun k n => by
    rw [encP, gv_skip _ _ _ _ (by simp; omega), gv_put _ _ _ _ _ (by simp; omega), gv_put _ _ _ _ _ (by simp; omega)]
    congr 1
    simp
    omega
  have hk : kP (encP m ok L) = L.length := by unfold kP; rw [g9]; simp
  have ht : totP (encP m ok L) = 11 + 9 * L.length := by unfold totP; rw [hk]
  have hat : ∀ i (hi : i < L.length), lookAt (encP m ok L) i = L[i] ∧ oddAt (encP m ok L) i = false := fun i hi => by
    obtain ⟨h1, h2⟩ := looks_at L i hi hL
    have h3 : gv (encP m ok L) (19 + 9 * i) 1 = bitS L[i].2 := by rw [show 19 + 9 * i = 11 + (9 * i + 8) by omega, gl, h2]
    constructor
    · unfold lookAt; rw [gl, h1, h3, bitS_one]
    · unfold oddAt; rw [h3]; exact decide_eq_false (bitS_range _).2.2
  have hodd : oddP (encP m ok L) = false := by
    unfold oddP
    rw [Bool.or_eq_false_iff, g0, hk]
    refine ⟨decide_eq_false (bitS_range _).2.2, List.any_eq_false.2 fun i hi => ?_⟩
    rw [(hat i (List.mem_range.1 hi)).2]
    simp
  have hmap : (List.range L.length).map (lookAt (encP m ok L)) = L := by
    apply List.ext_getElem (by simp)
    intro i h1 h2
    simp only [List.getElem_map, List.getElem_range]
    exact (hat i h2).1
  unfold decP
  rw [if_neg (by omega), if_neg (by omega), if_neg (by rw [hodd, ht, hlen]; simp), g0, g1, hk, hmap, bitS_one]
end Go.Proofs.Ytoojmbifkjocfaa.Proof
