/- Plain facts on numbers and lists, without a program: numbers as bytes, frames, xors. No conditions beyond what each lemma states. -/
import Derived.Laws.BitsLemmas
import Derived.Laws.Bits64
import Derived.RowKit
import Derived.Laws.BytesArg
import Derived.Lib.Bytes
namespace Go.Proofs.Ytghcnipehgjegaa.Plain
open Go
set_option linter.unusedVariables false
set_option linter.unusedSimpArgs false
theorem pow_mono {a b : Nat} (h : a ≤ b) : (2 : Int) ^ a ≤ 2 ^ b := by
  have : 2 ^ a ≤ 2 ^ b := Nat.pow_le_pow_right (by decide) h
  exact_mod_cast this

/-- The i-th element of a row of numbers; of a row of rows. -/
def nth (l : List Int) (i : Nat) : Int := l.getD i 0
def nthR (l : List (List Int)) (i : Nat) : List Int := l.getD i []
def nthQ (l : List (List (List Int))) (i : Nat) : List (List Int) := l.getD i []
theorem nthQ_eq {l : List (List (List Int))} {i : Nat} (h : i < l.length) : nthQ l i = l[i] := by simp [nthQ, h]
theorem nthQ_mem {l : List (List (List Int))} {i : Nat} (h : i < l.length) : nthQ l i ∈ l := by rw [nthQ_eq h]; exact List.getElem_mem h
theorem takeQ_map {l : List (List (List Int))} {i : Nat} (h : i < l.length) (f : List (List Int) → List Int) : (l.take (i + 1)).map f = (l.take i).map f ++ [f (nthQ l i)] := by
  rw [nthQ_eq h, List.take_succ_eq_append_getElem h, List.map_append]
  rfl
theorem nth_eq {l : List Int} {i : Nat} (h : i < l.length) : nth l i = l[i] := by simp [nth, h]
theorem nthR_eq {l : List (List Int)} {i : Nat} (h : i < l.length) : nthR l i = l[i] := by simp [nthR, h]
theorem take_snoc {l : List Int} {i : Nat} (h : i < l.length) : l.take (i + 1) = l.take i ++ [nth l i] := by
  rw [nth_eq h, List.take_succ_eq_append_getElem h]
theorem takeR_snoc {l : List (List Int)} {i : Nat} (h : i < l.length) : l.take (i + 1) = l.take i ++ [nthR l i] := by
  rw [nthR_eq h, List.take_succ_eq_append_getElem h]
theorem nth_mem {l : List Int} {i : Nat} (h : i < l.length) : nth l i ∈ l := by rw [nth_eq h]; exact List.getElem_mem h
theorem nthR_mem {l : List (List Int)} {i : Nat} (h : i < l.length) : nthR l i ∈ l := by rw [nthR_eq h]; exact List.getElem_mem h
theorem pow_lt {a b : Nat} (h : a < b) : (2 : Int) ^ a < 2 ^ b := by
  have : 2 ^ a < 2 ^ b := Nat.pow_lt_pow_right (by decide) h
  exact_mod_cast this
theorem snoc_ind {α : Type} {P : List α → Prop} (h0 : P []) (h1 : ∀ l x, P l → P (l ++ [x])) (l : List α) : P l := by
  have key : ∀ n, ∀ l : List α, l.length = n → P l := by
    intro n
    induction n with
    | zero =>
      intro l hl
      have : l = [] := List.length_eq_zero_iff.1 hl
      rw [this]; exact h0
    | succ n ih =>
      intro l hl
      have hne : l ≠ [] := fun h => by rw [h] at hl; simp at hl
      rw [← List.dropLast_concat_getLast hne]
      exact h1 _ _ (ih _ (by simp [hl]))
  exact key l.length l rfl
theorem mod_split (n P : Int) (hP : 0 < P) : n / 256 % P * 256 + n % 256 = n % (P * 256) := by
  have h1 := Int.emod_add_mul_ediv (n / 256) P
  have h2 : 0 ≤ n / 256 % P := Int.emod_nonneg _ (by omega)
  have h3 : n / 256 % P < P := Int.emod_lt_of_pos _ hP
  generalize n / 256 / P = q at h1
  have h4 : n = (n / 256 % P * 256 + n % 256) + P * 256 * q := by
    rw [Int.mul_right_comm]
    generalize P * q = z at *
    omega
  conv => rhs; rw [h4]
  rw [Int.add_mul_emod_self_left]
  exact (Int.emod_eq_of_lt (by omega) (by omega)).symm
/-- The i-th of s bytes of a number, the highest one first. -/
def dig (n : Int) (s i : Nat) : Int := n / 2 ^ (8 * (s - 1 - i)) % 256
def put (n : Int) (s : Nat) : List Int := (List.range s).map (dig n s)
def putAt (n : Int) (s i : Nat) : List Int := (List.range i).map (dig n s) ++ List.replicate (s - i) 0
theorem put_len (n : Int) (s : Nat) : (put n s).length = s := by simp [put]
theorem putAt_len (n : Int) (s i : Nat) (h : i ≤ s) : (putAt n s i).length = s := by simp [putAt]; omega
theorem putAt_zero (n : Int) (s : Nat) : putAt n s 0 = List.replicate s 0 := by simp [putAt]
theorem putAt_all (n : Int) (s : Nat) : putAt n s s = put n s := by simp [putAt, put]
theorem putAt_set (n : Int) (s i : Nat) (h : i < s) : (putAt n s i).set i (dig n s i) = putAt n s (i + 1) := by
  unfold putAt
  rw [List.set_append_right _ _ (by simp)]
  simp only [List.length_map, List.length_range, Nat.sub_self]
  obtain ⟨m, hm⟩ : ∃ m, s - i = m + 1 := ⟨s - i - 1, by omega⟩
  rw [hm, List.replicate_succ, List.set_cons_zero, List.range_succ, List.map_append, List.append_assoc]
  congr 2
  simp
  omega
theorem put_cons (n : Int) (i : Nat) : put n (i + 1) = (n / 2 ^ (8 * i) % 256) :: put n i := by
  unfold put
  rw [List.range_succ_eq_map, List.map_cons, List.map_map]
  congr 1
  apply List.map_congr_left
  intro j hj
  simp only [Function.comp, dig]
  congr 4
  omega
def putS (n s : Int) : List Int := if 1 ≤ s ∧ s ≤ 8 then put n s.toNat else []
theorem dig_range (n : Int) (s i : Nat) : 0 ≤ dig n s i ∧ dig n s i < 256 := by unfold dig; omega
theorem put_mem {n : Int} {s : Nat} {x : Int} (h : x ∈ put n s) : 0 ≤ x ∧ x < 256 := by
  simp only [put, List.mem_map] at h
  obtain ⟨i, _, rfl⟩ := h
  exact dig_range n s i
theorem put_snoc (n : Int) (i : Nat) : put n (i + 1) = put (n / 256) i ++ [n % 256] := by
  induction i generalizing n with
  | zero => simp [put, dig]
  | succ i ih =>
    rw [put_cons, ih, put_cons (n / 256) i]
    simp only [List.cons_append]
    congr 2
    rw [show (2 : Int) ^ (8 * (i + 1)) = 256 * 2 ^ (8 * i) by rw [Nat.mul_succ, Int.pow_add]; simp; omega]
    rw [Int.ediv_ediv_of_nonneg (by omega)]
def Byt (l : List Int) : Prop := ∀ x ∈ l, 0 ≤ x ∧ x < 256
theorem Byt.take {l : List Int} (h : Byt l) (i : Nat) : Byt (l.take i) := fun x hx => h x (List.mem_of_mem_take hx)
theorem Byt.drop {l : List Int} (h : Byt l) (i : Nat) : Byt (l.drop i) := fun x hx => h x (List.mem_of_mem_drop hx)
theorem Byt.nth {l : List Int} (h : Byt l) {i : Nat} (hi : i < l.length) : 0 ≤ nth l i ∧ nth l i < 256 := h _ (nth_mem hi)
theorem Byt.put (n : Int) (s : Nat) : Byt (put n s) := fun x hx => put_mem hx
/-- The number of bytes. -/
def val (l : List Int) : Int := l.foldl (fun n x => n * 256 + x) 0
theorem val_snoc (l : List Int) (x : Int) : val (l ++ [x]) = val l * 256 + x := by simp [val]
theorem val_nil : val [] = 0 := rfl
theorem val_bound {l : List Int} (h : ∀ x ∈ l, 0 ≤ x ∧ x < 256) : 0 ≤ val l ∧ val l < 2 ^ (8 * l.length) := by
  revert h
  refine snoc_ind (P := fun l => (∀ x ∈ l, 0 ≤ x ∧ x < 256) → 0 ≤ val l ∧ val l < 2 ^ (8 * l.length)) ?_ ?_ l
  · intro _; simp [val]
  · intro l x ih h
    obtain ⟨h1, h2⟩ := ih (fun y hy => h y (by simp [hy]))
    have h3 := h x (by simp)
    rw [val_snoc, List.length_append, List.length_singleton, Nat.mul_succ, Int.pow_add]
    simp only [Int.reducePow]
    omega
theorem val_or (v x : Int) (h0 : 0 ≤ v) (h1 : v < 2 ^ 56) (h2 : 0 ≤ x) (h3 : x < 256) : bits .or .u64 (v * 256) x = v * 256 + x :=
  bits_join .u64 64 (by decide) (fun n h h' => by rw [IntKind.wrap_u64]; omega) 8 (v * 256) x (by omega) (by omega) (by omega) h2 (by omega) (by omega)
theorem wrap_u64_in (n : Int) (h0 : 0 ≤ n) (h1 : n < 2 ^ 64) : IntKind.u64.wrap n = n := by rw [IntKind.wrap_u64]; omega
def getS (l : List Int) : Int × Bool := if 1 ≤ l.length ∧ l.length ≤ 8 then (val l, true) else (0, false)
theorem val_step {l : List Int} (h : Byt l) {i : Nat} (hi : i < l.length) (h8 : l.length ≤ 8) : val (l.take (i + 1)) = val (l.take i) * 256 + nth l i ∧ 0 ≤ val (l.take i) ∧ val (l.take i) < 2 ^ 56 := by
  have hb := val_bound (h.take i)
  refine ⟨by rw [take_snoc hi, val_snoc], hb.1, Int.lt_of_lt_of_le hb.2 ?_⟩
  rw [List.length_take]
  exact pow_mono (b := 56) (by omega)
theorem val_put (n : Int) (s : Nat) : val (put n s) = n % 2 ^ (8 * s) := by
  induction s generalizing n with
  | zero => simp [put, val]
  | succ s ih =>
    rw [put_snoc, val_snoc, ih, Nat.mul_succ, Int.pow_add]
    exact mod_split n _ (Int.pow_pos (by decide))
theorem put_val {l : List Int} (h : ∀ x ∈ l, 0 ≤ x ∧ x < 256) : put (val l) l.length = l := by
  revert h
  refine snoc_ind (P := fun l => (∀ x ∈ l, 0 ≤ x ∧ x < 256) → put (val l) l.length = l) ?_ ?_ l
  · intro _; rfl
  · intro l x ih h
    have h3 := h x (by simp)
    rw [List.length_append, List.length_singleton, put_snoc, val_snoc]
    rw [show (val l * 256 + x) / 256 = val l by omega, show (val l * 256 + x) % 256 = x by omega, ih (fun y hy => h y (by simp [hy]))]

/-! Xor -/
def xor8 (x y : Int) : Int := bits .xor .u8 x y
def xorS (a b : List Int) : List Int := List.zipWith xor8 a b
def xorAt (a b : List Int) (i : Nat) : List Int := (xorS a b).take i ++ List.replicate (min a.length b.length - i) 0
theorem xorS_len (a b : List Int) : (xorS a b).length = min a.length b.length := by simp [xorS]
theorem xorAt_len (a b : List Int) (i : Nat) (h : i ≤ min a.length b.length) : (xorAt a b i).length = min a.length b.length := by simp [xorAt, xorS_len]; omega
theorem xorAt_zero (a b : List Int) : xorAt a b 0 = List.replicate (min a.length b.length) 0 := by simp [xorAt]
theorem xorAt_all (a b : List Int) : xorAt a b (min a.length b.length) = xorS a b := by
  unfold xorAt
  rw [Nat.sub_self, List.replicate_zero, List.append_nil, List.take_of_length_le (by rw [xorS_len]; exact Nat.le_refl _)]
theorem xorS_nth {a b : List Int} {i : Nat} (h : i < min a.length b.length) : nth (xorS a b) i = xor8 (nth a i) (nth b i) := by
  rw [nth_eq (by rw [xorS_len]; exact h), nth_eq (by omega), nth_eq (by omega)]
  simp [xorS]
theorem xorAt_set (a b : List Int) (i : Nat) (h : i < min a.length b.length) : (xorAt a b i).set i (xor8 (nth a i) (nth b i)) = xorAt a b (i + 1) := by
  have hl : ((xorS a b).take i).length = i := by rw [List.length_take, xorS_len]; omega
  unfold xorAt
  rw [List.set_append_right _ _ (by omega), hl, Nat.sub_self]
  obtain ⟨m, hm⟩ : ∃ m, min a.length b.length - i = m + 1 := ⟨min a.length b.length - i - 1, by omega⟩
  rw [hm, List.replicate_succ, List.set_cons_zero, take_snoc (by rw [xorS_len]; exact h), xorS_nth h, List.append_assoc]
  congr 2
  simp
  omega
theorem xor8_nat (a b : Nat) (ha : a < 256) (hb : b < 256) : xor8 (a : Int) (b : Int) = ((a ^^^ b : Nat) : Int) := by
  have hx : a ^^^ b < 2 ^ 8 := Nat.xor_lt_two_pow (by omega) (by omega)
  have h1 : (BitVec.ofInt 8 (a : Int)).toNat = a := by
    rw [BitVec.ofInt_natCast, BitVec.toNat_ofNat]; exact Nat.mod_eq_of_lt (by omega)
  have h2 : (BitVec.ofInt 8 (b : Int)).toNat = b := by
    rw [BitVec.ofInt_natCast, BitVec.toNat_ofNat]; exact Nat.mod_eq_of_lt (by omega)
  show IntKind.u8.wrap ((BitVec.ofInt 8 (a : Int) ^^^ BitVec.ofInt 8 (b : Int)).toNat : Int) = _
  rw [BitVec.toNat_xor, h1, h2, IntKind.wrap_u8]
  omega
theorem xor8_range {x y : Int} (hx : 0 ≤ x ∧ x < 256) (hy : 0 ≤ y ∧ y < 256) : 0 ≤ xor8 x y ∧ xor8 x y < 256 := by
  obtain ⟨a, rfl⟩ := Int.eq_ofNat_of_zero_le hx.1
  obtain ⟨b, rfl⟩ := Int.eq_ofNat_of_zero_le hy.1
  rw [xor8_nat a b (by omega) (by omega)]
  have := Nat.xor_lt_two_pow (x := a) (y := b) (n := 8) (by omega) (by omega)
  omega
theorem xor8_comm {x y : Int} (hx : 0 ≤ x ∧ x < 256) (hy : 0 ≤ y ∧ y < 256) : xor8 x y = xor8 y x := by
  obtain ⟨a, rfl⟩ := Int.eq_ofNat_of_zero_le hx.1
  obtain ⟨b, rfl⟩ := Int.eq_ofNat_of_zero_le hy.1
  rw [xor8_nat a b (by omega) (by omega), xor8_nat b a (by omega) (by omega), Nat.xor_comm]
theorem xor8_assoc {x y z : Int} (hx : 0 ≤ x ∧ x < 256) (hy : 0 ≤ y ∧ y < 256) (hz : 0 ≤ z ∧ z < 256) : xor8 (xor8 x y) z = xor8 x (xor8 y z) := by
  obtain ⟨a, rfl⟩ := Int.eq_ofNat_of_zero_le hx.1
  obtain ⟨b, rfl⟩ := Int.eq_ofNat_of_zero_le hy.1
  obtain ⟨c, rfl⟩ := Int.eq_ofNat_of_zero_le hz.1
  have h1 := Nat.xor_lt_two_pow (x := a) (y := b) (n := 8) (by omega) (by omega)
  have h2 := Nat.xor_lt_two_pow (x := b) (y := c) (n := 8) (by omega) (by omega)
  rw [xor8_nat a b (by omega) (by omega), xor8_nat b c (by omega) (by omega), xor8_nat _ c (by omega) (by omega), xor8_nat a _ (by omega) (by omega), Nat.xor_assoc]
theorem xor8_self {x : Int} (hx : 0 ≤ x ∧ x < 256) : xor8 x x = 0 := by
  obtain ⟨a, rfl⟩ := Int.eq_ofNat_of_zero_le hx.1
  rw [xor8_nat a a (by omega) (by omega), Nat.xor_self]; rfl
theorem xor8_zero {x : Int} (hx : 0 ≤ x ∧ x < 256) : xor8 x 0 = x := by
  obtain ⟨a, rfl⟩ := Int.eq_ofNat_of_zero_le hx.1
  have := xor8_nat a 0 (by omega) (by omega)
  rw [Nat.xor_zero] at this
  exact this
theorem Byt.head {x : Int} {l : List Int} (h : Byt (x :: l)) : 0 ≤ x ∧ x < 256 := h x (by simp)
theorem Byt.tail {x : Int} {l : List Int} (h : Byt (x :: l)) : Byt l := fun y hy => h y (by simp [hy])
theorem Byt.xorS : ∀ {a b : List Int}, Byt a → Byt b → Byt (xorS a b)
  | [], b, _, _ => by intro x hx; simp [Plain.xorS] at hx
  | x :: a, [], _, _ => by intro x hx; simp [Plain.xorS] at hx
  | x :: a, y :: b, ha, hb => by
    intro z hz
    have hz' : z = xor8 x y ∨ z ∈ Plain.xorS a b := by simpa [Plain.xorS] using hz
    rcases hz' with rfl | hz'
    · exact xor8_range ha.head hb.head
    · exact Byt.xorS ha.tail hb.tail z hz'
theorem xorS_comm : ∀ {a b : List Int}, Byt a → Byt b → xorS a b = xorS b a
  | [], b, _, _ => by simp [xorS]
  | x :: a, [], _, _ => by simp [xorS]
  | x :: a, y :: b, ha, hb => by
    have ih := xorS_comm ha.tail hb.tail
    simp only [xorS, List.zipWith_cons_cons] at ih ⊢
    rw [ih, xor8_comm ha.head hb.head]
theorem xorS_assoc : ∀ {a b c : List Int}, Byt a → Byt b → Byt c → xorS (xorS a b) c = xorS a (xorS b c)
  | [], b, c, _, _, _ => by simp [xorS]
  | x :: a, [], c, _, _, _ => by simp [xorS]
  | x :: a, y :: b, [], _, _, _ => by simp [xorS]
  | x :: a, y :: b, z :: c, ha, hb, hc => by
    have ih := xorS_assoc ha.tail hb.tail hc.tail
    simp only [xorS, List.zipWith_cons_cons] at ih ⊢
    rw [ih, xor8_assoc ha.head hb.head hc.head]
theorem xorS_self : ∀ {a : List Int}, Byt a → xorS a a = List.replicate a.length 0
  | [], _ => rfl
  | x :: a, h => by
    have ih := xorS_self h.tail
    simp only [xorS, List.zipWith_cons_cons] at ih ⊢
    rw [ih, xor8_self h.head, List.length_cons, List.replicate_succ]
theorem xorS_back : ∀ {a b : List Int}, Byt a → Byt b → xorS (xorS a b) b = a.take (xorS a b).length
  | [], b, _, _ => by simp [xorS]
  | x :: a, [], _, _ => by simp [xorS]
  | x :: a, y :: b, ha, hb => by
    have ih := xorS_back ha.tail hb.tail
    simp only [xorS, List.zipWith_cons_cons, List.length_cons, List.take_succ_cons] at ih ⊢
    rw [ih, xor8_assoc ha.head hb.head hb.head, xor8_self hb.head, xor8_zero ha.head]
theorem xor_half (a b : Nat) : a ^^^ b = 2 * (a / 2 ^^^ b / 2) + (if a % 2 = b % 2 then 0 else 1) := by
  have h1 : (a ^^^ b) / 2 = a / 2 ^^^ b / 2 := Nat.xor_div_two
  have h2 : (a ^^^ b) % 2 = (a + b) % 2 := by
    have h := Nat.xor_mod_two_pow (a := a) (b := b) (n := 1)
    simp only [Nat.pow_one] at h
    rw [h]
    rcases Nat.mod_two_eq_zero_or_one a with h1 | h1 <;> rcases Nat.mod_two_eq_zero_or_one b with h2 | h2 <;> rw [h1, h2] <;> simp <;> omega
  have h3 := Nat.div_add_mod (a ^^^ b) 2
  split <;> omega
theorem xor_start {a b : Nat} (ha : (a : Int) < 256) (hb : (b : Int) < 256) : a < 2 ^ (8 - 0) ∧ b < 2 ^ (8 - 0) ∧ 0 + 2 ^ 0 * (a ^^^ b) = a ^^^ b ∧ (0 < 8 → (1 : Int) = 2 ^ 0) :=
  ⟨by omega, by omega, by rw [Nat.pow_zero, Nat.one_mul, Nat.zero_add], fun _ => rfl⟩
/-- One round of the reference's bits: what is told, and what is left. -/
theorem xor_round {n j a b X : Nat} (hj : j < 8) (ha : a < 2 ^ (8 - j)) (hb : b < 2 ^ (8 - j)) (h : n + 2 ^ j * (a ^^^ b) = X) (hX : X < 256) :
    (if a % 2 = b % 2 then n else n + 2 ^ j) + 2 ^ (j + 1) * (a / 2 ^^^ b / 2) = X ∧ a / 2 < 2 ^ (8 - (j + 1)) ∧ b / 2 < 2 ^ (8 - (j + 1)) ∧ n < 256 ∧ (if a % 2 = b % 2 then n else n + 2 ^ j) < 256 ∧ 2 ^ j < 256 := by
  have h1 := xor_half a b
  have e : 2 ^ (8 - j) = 2 * 2 ^ (8 - (j + 1)) := by rw [show 8 - j = (8 - (j + 1)) + 1 by omega, Nat.pow_succ, Nat.mul_comm]
  have e2 : 2 ^ (j + 1) * (a / 2 ^^^ b / 2) = 2 ^ j * (2 * (a / 2 ^^^ b / 2)) := by rw [Nat.pow_succ, Nat.mul_assoc]
  have e3 : 2 ^ j < 2 ^ 8 := Nat.pow_lt_pow_right (by decide) hj
  rw [h1, Nat.mul_add, ← e2] at h
  generalize 2 ^ (j + 1) * (a / 2 ^^^ b / 2) = z at *
  split at h
  · rename_i hab
    simp only [hab, if_true]
    refine ⟨by omega, by omega, by omega, by omega, by omega, by omega⟩
  · rename_i hab
    simp only [hab, if_false]
    refine ⟨by omega, by omega, by omega, by omega, by omega, by omega⟩

/-! Frames -/
theorem putS_in (n : Int) (s : Nat) (h1 : 1 ≤ s) (h8 : s ≤ 8) : putS n s = put n s := by rw [putS, if_pos (by omega)]; simp
theorem putS_two (n : Int) : putS n 2 = put n 2 := putS_in n 2 (by decide) (by decide)
def prt (p : List Int) : List Int := put p.length 2 ++ p
def frm (l : List (List Int)) : List Int := (l.map prt).flatten
theorem prt_len (p : List Int) : (prt p).length = 2 + p.length := by simp [prt, put_len]
theorem frm_snoc {l : List (List Int)} {i : Nat} (h : i < l.length) : frm (l.take (i + 1)) = frm (l.take i) ++ prt (nthR l i) := by
  rw [takeR_snoc h]
  simp [frm]
theorem frm_append (a b : List (List Int)) : frm (a ++ b) = frm a ++ frm b := by simp [frm]
theorem frm_len {l : List (List Int)} {m : Nat} (h : ∀ p ∈ l, p.length ≤ m) : (frm l).length ≤ l.length * (m + 2) := by
  induction l with
  | nil => simp [frm]
  | cons p l ih =>
    have h1 := ih (fun q hq => h q (by simp [hq]))
    have h2 := h p (by simp)
    have e : frm (p :: l) = prt p ++ frm l := by simp [frm]
    rw [e, List.length_append, prt_len, List.length_cons, Nat.succ_mul]
    omega
/-- The parts of bytes: with so many rounds at most. -/
def dec : Nat → List Int → Option (List (List Int))
  | 0, b => if b.length = 0 then some [] else none
  | f + 1, b => if b.length = 0 then some [] else if b.length < 2 then none else if ((b.length - 2 : Nat) : Int) < val (b.take 2) then none
      else (dec f (b.drop (2 + (val (b.take 2)).toNat))).map (fun l => (b.drop 2).take (val (b.take 2)).toNat :: l)
def partsS (b : List Int) : List (List Int) × Bool := match dec b.length b with
  | some l => (l, true)
  | none => ([], false)
theorem dec_nil {f : Nat} {b : List Int} (h : b.length = 0) : dec f b = some [] := by cases f <;> simp [dec, h]
theorem dec_short {f : Nat} {b : List Int} (h0 : b.length ≠ 0) (h : b.length < 2) (hf : b.length ≤ f) : dec f b = none := by
  obtain ⟨g, rfl⟩ : ∃ g, f = g + 1 := ⟨f - 1, by omega⟩
  rw [dec, if_neg h0, if_pos h]
theorem dec_long {f : Nat} {b : List Int} (h : ¬ b.length < 2) (hv : ((b.length - 2 : Nat) : Int) < val (b.take 2)) (hf : b.length ≤ f) : dec f b = none := by
  obtain ⟨g, rfl⟩ : ∃ g, f = g + 1 := ⟨f - 1, by omega⟩
  rw [dec, if_neg (by omega), if_neg h, if_pos hv]
theorem dec_step {f m : Nat} {b : List Int} (h : ¬ b.length < 2) (hm : val (b.take 2) = (m : Int)) (hv : m ≤ b.length - 2) (hf : b.length ≤ f) :
    ∃ g, f = g + 1 ∧ (b.drop (2 + m)).length ≤ g ∧ dec f b = (dec g (b.drop (2 + m))).map (fun l => (b.drop 2).take m :: l) := by
  obtain ⟨g, rfl⟩ : ∃ g, f = g + 1 := ⟨f - 1, by omega⟩
  refine ⟨g, rfl, by rw [List.length_drop]; omega, ?_⟩
  rw [dec, if_neg (by omega), if_neg h, if_neg (by omega), hm]
  rfl
theorem partsS_some {b : List Int} {l : List (List Int)} (h : dec b.length b = some l) : partsS b = (l, true) := by simp [partsS, h]
theorem partsS_none {b : List Int} (h : dec b.length b = none) : partsS b = ([], false) := by simp [partsS, h]
theorem val_two {b : List Int} (hy : Byt b) (h : ¬ b.length < 2) : 0 ≤ val (b.take 2) ∧ val (b.take 2) < 65536 := by
  have := val_bound (hy.take 2)
  rw [List.length_take, Nat.min_eq_left (by omega)] at this
  exact this
theorem val_pair {b : List Int} {i : Nat} (h : i + 1 < b.length) : val ((b.drop i).take 2) = nth b i * 256 + nth b (i + 1) := by
  have e : (b.drop i).take 2 = [nth b i, nth b (i + 1)] := by
    rw [nth_eq (by omega), nth_eq h, List.drop_eq_getElem_cons (by omega), List.drop_eq_getElem_cons h]
    rfl
  rw [e]
  simp [val]
theorem frm_cons (p : List Int) (l : List (List Int)) : frm (p :: l) = prt p ++ frm l := by simp [frm]
theorem prt_cut {p r : List Int} (h : p.length ≤ 65535) : val ((prt p ++ r).take 2) = p.length ∧ ((prt p ++ r).drop 2).take p.length = p ∧ (prt p ++ r).drop (2 + p.length) = r := by
  have h2 := put_len p.length 2
  refine ⟨?_, ?_, ?_⟩
  · rw [prt, List.append_assoc, List.take_append_of_le_length (by omega), List.take_of_length_le (by omega), val_put]
    omega
  · rw [prt, List.append_assoc, List.drop_append_of_le_length (by omega), List.drop_of_length_le (by omega), List.nil_append, List.take_append_of_le_length (Nat.le_refl _), List.take_length]
  · rw [← prt_len p, List.drop_left]
theorem dec_frm : ∀ {l : List (List Int)} {f : Nat}, (∀ p ∈ l, p.length ≤ 65535) → (frm l).length ≤ f → dec f (frm l) = some l
  | [], f, _, _ => dec_nil rfl
  | p :: l, f, h, hf => by
    have hp := h p (by simp)
    obtain ⟨c1, c2, c3⟩ := prt_cut (r := frm l) hp
    rw [frm_cons] at hf ⊢
    have hl : (prt p ++ frm l).length = 2 + p.length + (frm l).length := by rw [List.length_append, prt_len]
    obtain ⟨g, hg, hg2, hg3⟩ := dec_step (b := prt p ++ frm l) (m := p.length) (by omega) c1 (by omega) hf
    rw [hg3, c3, c2, dec_frm (fun q hq => h q (by simp [hq])) (by rw [c3] at hg2; exact hg2)]
    rfl
theorem partsS_frm {l : List (List Int)} (h : ∀ p ∈ l, p.length ≤ 65535) : partsS (frm l) = (l, true) := partsS_some (dec_frm h (Nat.le_refl _))
theorem Byt.frm {l : List (List Int)} (h : ∀ p ∈ l, Byt p) : Byt (frm l) := by
  intro x hx
  simp only [Plain.frm, List.mem_flatten, List.mem_map] at hx
  obtain ⟨q, ⟨p, hp, rfl⟩, hx⟩ := hx
  simp only [prt, List.mem_append] at hx
  rcases hx with hx | hx
  · exact put_mem hx
  · exact h p hp x hx
theorem nthR_map {l : List (List (List Int))} {i : Nat} (h : i < l.length) (f : List (List Int) → List Int) : nthR (l.map f) i = f (nthQ l i) := by
  rw [nthR_eq (by simpa using h), nthQ_eq h]
  simp
theorem frm_awake : frm [[7], []] = [0, 1, 7, 0, 0] := by decide
theorem put_awake : putS 258 3 = [0, 1, 2] := by decide

/-! Bytes as strings: which comes first -/
def u8 (x : Int) : UInt8 := UInt8.ofNat x.toNat
theorem u8_toNat {x : Int} (h : 0 ≤ x ∧ x < 256) : ((u8 x).toNat : Int) = x := by
  unfold u8
  rw [UInt8.toNat_ofNat']
  omega
theorem u8_lt {x y : Int} (hx : 0 ≤ x ∧ x < 256) (hy : 0 ≤ y ∧ y < 256) : (u8 x < u8 y) ↔ x < y := by
  rw [UInt8.lt_iff_toNat_lt]
  have := u8_toNat hx
  have := u8_toNat hy
  omega
theorem u8_eq {x y : Int} (hx : 0 ≤ x ∧ x < 256) (hy : 0 ≤ y ∧ y < 256) : (u8 x = u8 y) ↔ x = y := by
  constructor
  · intro h
    have h1 := u8_toNat hx
    have h2 := u8_toNat hy
    rw [h] at h1
    omega
  · intro h; rw [h]
theorem less_pow {P a b r s : Int} (hr : 0 ≤ r) (hr2 : r < P) (hs : 0 ≤ s) (hs2 : s < P) : (a * P + r < b * P + s) ↔ (a < b ∨ (a = b ∧ r < s)) := by
  rcases Int.lt_trichotomy a b with h | h | h
  · have h1 : (a + 1) * P ≤ b * P := Int.mul_le_mul_of_nonneg_right (by omega) (by omega)
    rw [Int.add_mul] at h1
    constructor
    · intro _; exact .inl h
    · intro _; omega
  · subst h
    constructor
    · intro h; exact .inr ⟨rfl, by omega⟩
    · intro h; rcases h with h | h <;> omega
  · have h1 : (b + 1) * P ≤ a * P := Int.mul_le_mul_of_nonneg_right (by omega) (by omega)
    rw [Int.add_mul] at h1
    constructor
    · intro _; omega
    · intro h; rcases h with h | h <;> omega
theorem mod_up (n : Int) (i : Nat) : n % 2 ^ (8 * (i + 1)) = n / 2 ^ (8 * i) % 256 * 2 ^ (8 * i) + n % 2 ^ (8 * i) := by
  have h1 := val_put n (i + 1)
  rw [← h1, put_cons]
  have e : ∀ (d : Int) (l : List Int), val (d :: l) = d * 2 ^ (8 * l.length) + val l := by
    intro d l
    refine snoc_ind (P := fun l => val (d :: l) = d * 2 ^ (8 * l.length) + val l) ?_ ?_ l
    · simp [val]
    · intro l x ih
      rw [← List.cons_append, val_snoc, ih, val_snoc, List.length_append, List.length_singleton, Nat.mul_succ, Int.pow_add, Int.add_mul, Int.mul_assoc]
      simp only [Int.reducePow]
      omega
  rw [e, put_len, val_put]
theorem less_put (n m : Int) (i : Nat) : Op.bytesLess ((put n i).map u8) ((put m i).map u8) = decide (n % 2 ^ (8 * i) < m % 2 ^ (8 * i)) := by
  induction i with
  | zero => simp [put, Op.bytesLess]
  | succ i ih =>
    have hp : (0 : Int) < 2 ^ (8 * i) := Int.pow_pos (by decide)
    rw [put_cons, put_cons, List.map_cons, List.map_cons, Op.bytesLess, ih, mod_up, mod_up m]
    have h1 := dig_range n (i + 1) 0
    have h2 := dig_range m (i + 1) 0
    simp only [dig, Nat.add_sub_cancel, Nat.sub_zero] at h1 h2
    have h3 := less_pow (P := 2 ^ (8 * i)) (a := n / 2 ^ (8 * i) % 256) (b := m / 2 ^ (8 * i) % 256) (Int.emod_nonneg n (by omega)) (Int.emod_lt_of_pos n hp) (Int.emod_nonneg m (by omega)) (Int.emod_lt_of_pos m hp)
    rw [Bool.eq_iff_iff]
    simp only [Bool.or_eq_true, Bool.and_eq_true, decide_eq_true_eq, beq_iff_eq]
    rw [u8_lt h1 h2, u8_eq h1 h2, h3]
theorem map_u8_inj : ∀ {a b : List Int}, Byt a → Byt b → a.map u8 = b.map u8 → a = b
  | [], [], _, _, _ => rfl
  | [], y :: b, _, _, h => by simp at h
  | x :: a, [], _, _, h => by simp at h
  | x :: a, y :: b, ha, hb, h => by
    simp only [List.map_cons, List.cons.injEq] at h
    rw [(u8_eq ha.head hb.head).1 h.1, map_u8_inj ha.tail hb.tail h.2]
theorem str_list (l : List Int) : (strOfNums l).toList = l.map u8 := Lib.strOfNums_toList l
theorem less_str (n m : Int) (k : Nat) : Op.bytesLess (strOfNums (put n k)).toList (strOfNums (put m k)).toList = decide (n % 2 ^ (8 * k) < m % 2 ^ (8 * k)) := by
  rw [str_list, str_list, less_put]
theorem same_str (n m : Int) (k : Nat) : ((strOfNums (put n k)).toList == (strOfNums (put m k)).toList) = decide (n % 2 ^ (8 * k) = m % 2 ^ (8 * k)) := by
  rw [str_list, str_list, Bool.eq_iff_iff, beq_iff_eq, decide_eq_true_eq]
  constructor
  · intro h
    have := map_u8_inj (Byt.put n k) (Byt.put m k) h
    rw [← val_put, ← val_put, this]
  · intro h
    have e : put n k = put m k := by
      have h1 := put_val (Byt.put n k)
      have h2 := put_val (Byt.put m k)
      rw [val_put, put_len] at h1 h2
      rw [← h1, ← h2, h]
    rw [e]
theorem put_split (n : Int) (C D : Nat) : put n (C + D) = put (n / 2 ^ (8 * C)) D ++ put n C := by
  induction D with
  | zero => simp [put]
  | succ D ih =>
    rw [Nat.add_succ, put_cons, put_cons, ih, List.cons_append]
    congr 2
    rw [Int.ediv_ediv_of_nonneg (Int.pow_nonneg (by decide)), ← Int.pow_add]
    congr 2
    omega
theorem val_append (a b : List Int) : val (a ++ b) = val a * 2 ^ (8 * b.length) + val b := by
  refine snoc_ind (P := fun b => val (a ++ b) = val a * 2 ^ (8 * b.length) + val b) ?_ ?_ b
  · simp [val]
  · intro b x ih
    rw [← List.append_assoc, val_snoc, ih, val_snoc, List.length_append, List.length_singleton, Nat.mul_succ, Int.pow_add, Int.add_mul, Int.mul_assoc]
    simp only [Int.reducePow]
    omega
theorem digits_facts {n : Int} {C D : Nat} (h : C + D ≤ 8) :
    (put n (C + D)).take D = put (n / 2 ^ (8 * C)) D ∧ (put n (C + D)).drop D = put n C ∧
    IntKind.u64.wrap (val ((put n (C + D)).take D) * 2 ^ (8 * C)) = val ((put n (C + D)).take D) * 2 ^ (8 * C) ∧
    bits .or .u64 (val ((put n (C + D)).take D) * 2 ^ (8 * C)) (val ((put n (C + D)).drop D)) = val (put n (C + D)) := by
  have e := put_split n C D
  have h1 : (put n (C + D)).take D = put (n / 2 ^ (8 * C)) D := by rw [e, List.take_append_of_le_length (by rw [put_len]; exact Nat.le_refl _), List.take_of_length_le (by rw [put_len]; exact Nat.le_refl _)]
  have h2 : (put n (C + D)).drop D = put n C := by rw [e, List.drop_append_of_le_length (by rw [put_len]; exact Nat.le_refl _), List.drop_of_length_le (by rw [put_len]; exact Nat.le_refl _), List.nil_append]
  have hv : val (put n (C + D)) = val (put (n / 2 ^ (8 * C)) D) * 2 ^ (8 * C) + val (put n C) := by rw [e, val_append, put_len]
  have hb := val_bound (Byt.put n (C + D))
  rw [put_len, hv] at hb
  have hb1 := val_bound (Byt.put (n / 2 ^ (8 * C)) D)
  have hb2 := val_bound (Byt.put n C)
  rw [put_len] at hb1 hb2
  have hp : (0 : Int) < 2 ^ (8 * C) := Int.pow_pos (by decide)
  have h64 : (2 : Int) ^ (8 * (C + D)) ≤ 2 ^ 64 := pow_mono (by omega)
  have hm : 0 ≤ val (put (n / 2 ^ (8 * C)) D) * 2 ^ (8 * C) := Int.mul_nonneg hb1.1 (by omega)
  have hlt : val (put (n / 2 ^ (8 * C)) D) * 2 ^ (8 * C) < 2 ^ 64 := by omega
  refine ⟨h1, h2, ?_, ?_⟩
  · rw [h1]; exact wrap_u64_in _ hm hlt
  · rw [h1, h2, hv]
    exact bits_join .u64 64 (by decide) (fun n h h' => by rw [IntKind.wrap_u64]; omega) (8 * C) _ _ hm (Int.mul_emod_left _ _) hlt hb2.1 hb2.2 (by omega)
theorem again_facts {n m : Int} {k : Nat} (hn : n % 2 ^ (8 * k) = n) (hm : m % 2 ^ (8 * k) = m) :
    (((put n k).length : Int) == (k : Int)) = true ∧ ((put n k).length == k) = true ∧ (val (put n k) == n) = true ∧ (val (put m k) == m) = true ∧
    (Op.bytesLess (strOfNums (put n k)).toList (strOfNums (put m k)).toList == decide (n < m)) = true ∧ (((strOfNums (put n k)).toList == (strOfNums (put m k)).toList) == (n == m)) = true := by
  refine ⟨by rw [put_len]; simp, by rw [put_len]; simp, ?_, ?_, ?_, ?_⟩
  · rw [val_put, hn]; simp
  · rw [val_put, hm]; simp
  · rw [less_str, hn, hm]; simp
  · rw [same_str, hn, hm, beq_iff_eq, Bool.eq_iff_iff, decide_eq_true_eq, beq_iff_eq]
end Go.Proofs.Ytghcnipehgjegaa.Plain
