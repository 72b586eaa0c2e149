/- The little cipher's sum, and sealed sectors by it; a byte that rots. No program. Arrays of bytes in blocks of one's own: a load, a store, a cut, a copy; whether two are the same. No conditions. How arrays of bytes among the arguments are read. No conditions. What the little cipher's sum answers. No conditions. Sealed sectors, by the little cipher: what sector.Pack and sector.Unpack answer. No conditions beyond the place's bounds. What sector.Unpack answers, by the little cipher. No conditions beyond the place's bounds. -/
import Derived.Test.YtghcnipehgjegaaPlain
import Derived.Test.YtghcnipehgjegaaBytes
import Derived.Deep.MidRow
import Derived.Deep.WholeRow
import Derived.Laws.CopyOwn
import Derived.ChangeKeysEq
import Derived.Laws.StructEq
import Derived.Test.YtghcnipehgjegaaOpen
import Derived.OpenShut
import Derived.WideShapes
import Derived.Test.YtghcnipehgjegaaWirePG
import Derived.Deep.DeepMust
section
namespace Go.Proofs.Ytghcnipehgjegaa.Plain
open Go
set_option linter.unusedVariables false
set_option linter.unusedSimpArgs false
def mixK (x k : Int) : Int := IntKind.u64.wrap (IntKind.u64.wrap (x + k) * 1099511628211)
def mixB (x b : Int) : Int := IntKind.u64.wrap (IntKind.u64.wrap (IntKind.u64.wrap (x + b) + 1) * 1099511628211)
def lcg (x : Int) : Int := IntKind.u64.wrap (IntKind.u64.wrap (x * 6364136223846793005) + 1442695040888963407)
def topB (x : Int) : Int := x / 72057594037927936
def outS : Nat → Int → List Int
  | 0, _ => []
  | n + 1, x => topB (lcg x) :: outS n (lcg x)
def litX (K b : List Int) : Int := b.foldl mixB (K.foldl mixK (b.length : Int))
def litS (K b : List Int) : List Int := outS 16 (litX K b)
theorem lcg_range (x : Int) : 0 ≤ lcg x ∧ lcg x < 18446744073709551616 := by unfold lcg; rw [IntKind.wrap_u64]; omega
theorem topB_range (x : Int) : 0 ≤ topB (lcg x) ∧ topB (lcg x) < 256 := by have := lcg_range x; unfold topB; omega
theorem outS_len : ∀ (n : Nat) (x : Int), (outS n x).length = n
  | 0, _ => rfl
  | n + 1, x => by rw [outS, List.length_cons, outS_len n]
theorem outS_byt : ∀ (n : Nat) (x : Int), Byt (outS n x)
  | 0, _ => fun y hy => by simp [outS] at hy
  | n + 1, x => fun y hy => by
    rw [outS, List.mem_cons] at hy
    rcases hy with rfl | hy
    · exact topB_range x
    · exact outS_byt n _ y hy
theorem litS_len (K b : List Int) : (litS K b).length = 16 := outS_len _ _
theorem litS_byt (K b : List Int) : Byt (litS K b) := outS_byt _ _
theorem mixB_diff (x y b D : Int) (h : (x - y - D) % 18446744073709551616 = 0) : (mixB x b - mixB y b - D * 1099511628211) % 18446744073709551616 = 0 := by
  unfold mixB
  simp only [IntKind.wrap_u64]
  omega
theorem mixB_two (x b c : Int) : (mixB x b - mixB x c - (b - c) * 1099511628211) % 18446744073709551616 = 0 := by
  unfold mixB
  simp only [IntKind.wrap_u64]
  omega
theorem lcg_diff (x y D : Int) (h : (x - y - D) % 18446744073709551616 = 0) : (lcg x - lcg y - D * 6364136223846793005) % 18446744073709551616 = 0 := by
  unfold lcg
  simp only [IntKind.wrap_u64]
  omega
theorem fold_diff : ∀ (q : List Int) (x y D : Int), (x - y - D) % 18446744073709551616 = 0 → (q.foldl mixB x - q.foldl mixB y - D * 1099511628211 ^ q.length) % 18446744073709551616 = 0
  | [], x, y, D, h => by simpa using h
  | b :: q, x, y, D, h => by
    have h1 := fold_diff q _ _ _ (mixB_diff x y b D h)
    rw [Int.mul_assoc, ← Int.pow_succ'] at h1
    exact h1
/-- Near nothing, round the circle. -/
def nearZ (e : Int) : Prop := e % 18446744073709551616 < 72057594037927936 ∨ 18374686479671623680 < e % 18446744073709551616
theorem near_of (x y D : Int) (h : (x - y - D) % 18446744073709551616 = 0) (he : topB (lcg x) = topB (lcg y)) : nearZ (D * 6364136223846793005) := by
  have h1 := lcg_diff x y D h
  have h2 := lcg_range x
  have h3 := lcg_range y
  unfold topB at he
  have h4 : -72057594037927936 < lcg x - lcg y ∧ lcg x - lcg y < 72057594037927936 := by omega
  unfold nearZ
  generalize lcg x - lcg y = z at h1 h4
  generalize D * 6364136223846793005 = e at h1
  omega
theorem near_neg {e : Int} (h : nearZ e) : nearZ (-e) := by unfold nearZ at *; omega
theorem outS_near (x y D : Int) (h : (x - y - D) % 18446744073709551616 = 0) (he : outS 16 x = outS 16 y) :
    nearZ (D * 6364136223846793005) ∧ nearZ (D * 6364136223846793005 * 6364136223846793005) ∧ nearZ (D * 6364136223846793005 * 6364136223846793005 * 6364136223846793005) := by
  have e : ∀ z, outS 16 z = topB (lcg z) :: topB (lcg (lcg z)) :: topB (lcg (lcg (lcg z))) :: outS 13 (lcg (lcg (lcg z))) := fun _ => rfl
  rw [e, e] at he
  simp only [List.cons.injEq] at he
  obtain ⟨h1, h2, h3, _⟩ := he
  have g1 := lcg_diff _ _ _ h
  have g2 := lcg_diff _ _ _ g1
  exact ⟨near_of _ _ _ h h1, near_of _ _ _ g1 h2, near_of _ _ _ g2 h3⟩
def nearN (e : Nat) : Bool := decide (e % 18446744073709551616 < 72057594037927936) || decide (18374686479671623680 < e % 18446744073709551616)
def chkN (k d : Nat) : Bool := !(nearN (d * 1099511628211 ^ (k + 1) * 6364136223846793005) && nearN (d * 1099511628211 ^ (k + 1) * 6364136223846793005 * 6364136223846793005) && nearN (d * 1099511628211 ^ (k + 1) * 6364136223846793005 * 6364136223846793005 * 6364136223846793005))
theorem chk_all : ((List.range 116).all fun k => (List.range 255).all fun d => chkN k (d + 1)) = true := by decide +kernel
theorem chk_one {k d : Nat} (hk : k < 116) (h0 : 0 < d) (hd : d < 256) : chkN k d = true := by
  have h := chk_all
  rw [List.all_eq_true] at h
  have h1 := h k (List.mem_range.2 hk)
  rw [List.all_eq_true] at h1
  have h2 := h1 (d - 1) (List.mem_range.2 (by omega))
  rwa [show d - 1 + 1 = d by omega] at h2
theorem near_nat (e : Nat) (h : nearZ (e : Int)) : nearN e = true := by
  unfold nearZ at h
  unfold nearN
  rw [Bool.or_eq_true, decide_eq_true_eq, decide_eq_true_eq]
  omega
theorem far_pos {k d : Nat} (hk : k < 116) (h0 : 0 < d) (hd : d < 256) (E : Int) (hE : E = (d : Int) * 1099511628211 ^ (k + 1))
    (h : nearZ (E * 6364136223846793005) ∧ nearZ (E * 6364136223846793005 * 6364136223846793005) ∧ nearZ (E * 6364136223846793005 * 6364136223846793005 * 6364136223846793005)) : False := by
  obtain ⟨h1, h2, h3⟩ := h
  have c := chk_one hk h0 hd
  unfold chkN at c
  obtain ⟨m, hm⟩ : ∃ m : Nat, m = d * 1099511628211 ^ (k + 1) := ⟨_, rfl⟩
  have e : E = (m : Int) := by rw [hE, hm, Int.natCast_mul, Int.natCast_pow]; rfl
  rw [← hm] at c
  clear hm hE
  subst e
  have n1 := near_nat (m * 6364136223846793005) (by rw [Int.natCast_mul]; exact h1)
  have n2 := near_nat (m * 6364136223846793005 * 6364136223846793005) (by rw [Int.natCast_mul, Int.natCast_mul]; exact h2)
  have n3 := near_nat (m * 6364136223846793005 * 6364136223846793005 * 6364136223846793005) (by rw [Int.natCast_mul, Int.natCast_mul, Int.natCast_mul]; exact h3)
  rw [n1, n2, n3] at c
  simp at c
theorem litS_rot (K p q : List Int) (x v : Int) (hx : 0 ≤ x ∧ x < 256) (hv : 0 ≤ v ∧ v < 256) (hne : x ≠ v) (hq : q.length ≤ 115) : litS K (p ++ x :: q) ≠ litS K (p ++ v :: q) := by
  intro he
  have hl : (p ++ x :: q).length = (p ++ v :: q).length := by simp
  unfold litS litX at he
  rw [← hl, List.foldl_append, List.foldl_append, List.foldl_cons, List.foldl_cons] at he
  generalize p.foldl mixB (K.foldl mixK ((p ++ x :: q).length : Int)) = s at he
  have h1 := outS_near _ _ _ (fold_diff q _ _ _ (mixB_two s x v)) he
  rw [Int.mul_assoc (x - v), ← Int.pow_succ'] at h1
  by_cases hlt : v < x
  · obtain ⟨d, hd⟩ := Int.eq_ofNat_of_zero_le (show 0 ≤ x - v by omega)
    exact far_pos (k := q.length) (d := d) (by omega) (by omega) (by omega) _ (by rw [hd]) h1
  · obtain ⟨d, hd⟩ := Int.eq_ofNat_of_zero_le (show 0 ≤ v - x by omega)
    refine far_pos (k := q.length) (d := d) (by omega) (by omega) (by omega) (-((x - v) * 1099511628211 ^ (q.length + 1))) ?_ ?_
    · rw [← Int.neg_mul, show -(x - v) = v - x by omega, hd]
    · obtain ⟨a, b, c⟩ := h1
      refine ⟨?_, ?_, ?_⟩
      · rw [Int.neg_mul]; exact near_neg a
      · rw [Int.neg_mul, Int.neg_mul]; exact near_neg b
      · rw [Int.neg_mul, Int.neg_mul, Int.neg_mul]; exact near_neg c

/-! Sealed sectors -/
/-- What stands behind the sum. -/
def restP (gen : Int) (body : List Int) : List Int := put gen 8 ++ ((body.length : Int) :: (body ++ List.replicate (103 - body.length) 0))
def sumP (p : Int) (r : List Int) : List Int := litS (List.replicate 32 0) (put p 4 ++ r)
def sealP (p gen : Int) (body : List Int) : List Int := sumP p (restP gen body) ++ restP gen body
theorem restP_len {gen : Int} {body : List Int} (h : body.length ≤ 103) : (restP gen body).length = 112 := by simp [restP, put_len]; omega
theorem sumP_len (p : Int) (r : List Int) : (sumP p r).length = 16 := litS_len _ _
theorem sealP_len {p gen : Int} {body : List Int} (h : body.length ≤ 103) : (sealP p gen body).length = 128 := by rw [sealP, List.length_append, sumP_len, restP_len h]
theorem restP_byt {gen : Int} {body : List Int} (h : body.length ≤ 103) (hb : Byt body) : Byt (restP gen body) := by
  intro x hx
  rw [restP, List.mem_append, List.mem_cons, List.mem_append] at hx
  rcases hx with hx | rfl | hx | hx
  · exact put_mem hx
  · omega
  · exact hb x hx
  · obtain ⟨_, rfl⟩ := List.mem_replicate.1 hx; omega
theorem sealP_byt {p gen : Int} {body : List Int} (h : body.length ≤ 103) (hb : Byt body) : Byt (sealP p gen body) := by
  intro x hx
  rw [sealP, List.mem_append] at hx
  rcases hx with hx | hx
  · exact litS_byt _ _ x hx
  · exact restP_byt h hb x hx
/-- What a sector tells, if it is sealed for the place. -/
def unsealP (p : Int) (s : List Int) : Option (Int × List Int) :=
  if 103 < nth s 24 then none else
  if sealP p (val ((s.take 24).drop 16)) ((s.take (25 + (nth s 24).toNat)).drop 25) = s then some (val ((s.take 24).drop 16), (s.take (25 + (nth s 24).toNat)).drop 25) else none
theorem seal_len {p gen : Int} {body : List Int} : nth (sealP p gen body) 24 = body.length := by
  have h : sealP p gen body = (sumP p (restP gen body) ++ put gen 8) ++ ((body.length : Int) :: (body ++ List.replicate (103 - body.length) 0)) := by
    rw [List.append_assoc]; rfl
  have hl : (sumP p (restP gen body) ++ put gen 8).length = 24 := by rw [List.length_append, sumP_len, put_len]
  rw [nth, h, List.getD_eq_getElem?_getD, List.getElem?_append_right (by omega), hl]
  rfl
theorem seal_gen {p gen : Int} {body : List Int} (h0 : 0 ≤ gen) (h1 : gen < 2 ^ 64) : val (((sealP p gen body).take 24).drop 16) = gen := by
  have h : sealP p gen body = sumP p (restP gen body) ++ (put gen 8 ++ ((body.length : Int) :: (body ++ List.replicate (103 - body.length) 0))) := rfl
  have hl := sumP_len p (restP gen body)
  have hp := put_len gen 8
  have : ((sealP p gen body).take 24).drop 16 = put gen 8 := by
    rw [h]
    conv => lhs; arg 1; rw [← hl]
    rw [show 24 = (sumP p (restP gen body)).length + 8 by omega, List.take_length_add_append, List.drop_left, List.take_append_of_le_length (by omega), List.take_of_length_le (by omega)]
  rw [this, val_put]
  omega
theorem seal_body {p gen : Int} {body : List Int} : ((sealP p gen body).take (25 + body.length)).drop 25 = body := by
  have h : sealP p gen body = (sumP p (restP gen body) ++ (put gen 8 ++ [(body.length : Int)])) ++ (body ++ List.replicate (103 - body.length) 0) := by
    conv => lhs; rw [sealP]; arg 2; rw [restP]
    simp
  have hl : (sumP p (restP gen body) ++ (put gen 8 ++ [(body.length : Int)])).length = 25 := by simp [sumP_len, put_len]
  rw [h, ← hl, List.take_length_add_append, List.drop_left, List.take_append_of_le_length (Nat.le_refl _), List.take_length]
theorem unseal_seal {p gen : Int} {body : List Int} (h0 : 0 ≤ gen) (h1 : gen < 2 ^ 64) (h : body.length ≤ 103) : unsealP p (sealP p gen body) = some (gen, body) := by
  unfold unsealP
  rw [seal_len, seal_gen h0 h1, show ((body.length : Int)).toNat = body.length from rfl, seal_body, if_neg (by omega), if_pos rfl]
theorem unseal_rot {p gen : Int} {body : List Int} (h : body.length ≤ 103) (hb : Byt body) {j : Nat} (hj : j < 128) {v : Int} (hv : 0 ≤ v ∧ v < 256) (hne : nth (sealP p gen body) j ≠ v) : unsealP p ((sealP p gen body).set j v) = none := by
  have hl := sealP_len (p := p) (gen := gen) h
  have hby := sealP_byt (p := p) (gen := gen) h hb
  unfold unsealP
  split
  · rfl
  rw [if_neg]
  intro he
  generalize val (((((sealP p gen body).set j v)).take 24).drop 16) = g' at he
  generalize hb' : (((sealP p gen body).set j v).take (25 + (nth ((sealP p gen body).set j v) 24).toNat)).drop 25 = b' at he
  have hd := congrArg (List.drop 16) he
  have ht := congrArg (List.take 16) he
  have e1 : (sealP p g' b').drop 16 = restP g' b' := by
    rw [sealP, List.drop_append_of_le_length (by rw [sumP_len]; omega), List.drop_of_length_le (by rw [sumP_len]; omega), List.nil_append]
  have e2 : (sealP p g' b').take 16 = sumP p (restP g' b') := by
    rw [sealP, List.take_append_of_le_length (by rw [sumP_len]; omega), List.take_of_length_le (by rw [sumP_len]; omega)]
  have e3 : (sealP p gen body).drop 16 = restP gen body := by
    rw [sealP, List.drop_append_of_le_length (by rw [sumP_len]; omega), List.drop_of_length_le (by rw [sumP_len]; omega), List.nil_append]
  have e4 : (sealP p gen body).take 16 = sumP p (restP gen body) := by
    rw [sealP, List.take_append_of_le_length (by rw [sumP_len]; omega), List.take_of_length_le (by rw [sumP_len]; omega)]
  rw [e1] at hd
  rw [e2] at ht
  have hnj : nth ((sealP p gen body).set j v) j = v := by
    rw [nth_eq (by rw [List.length_set]; omega)]; simp
  by_cases h16 : j < 16
  · rw [List.drop_set_of_lt h16, e3] at hd
    rw [hd, ← e4] at ht
    have h1 := congrArg (fun l => nth l j) ht
    simp only [nth, List.getD_eq_getElem?_getD] at h1
    rw [List.getElem?_take_of_lt h16, List.getElem?_take_of_lt h16] at h1
    apply hne
    have h2 : nth (sealP p gen body) j = nth ((sealP p gen body).set j v) j := by simpa only [nth, List.getD_eq_getElem?_getD] using h1
    rw [h2, hnj]
  · rw [hd, List.take_set_of_le (by omega), e4, List.drop_set, if_neg h16, e3] at ht
    have hr := restP_len (gen := gen) h
    have hi : j - 16 < (restP gen body).length := by omega
    unfold sumP at ht
    have hs : (restP gen body).set (j - 16) v = (restP gen body).take (j - 16) ++ v :: (restP gen body).drop (j - 16 + 1) := List.set_eq_take_append_cons_drop ▸ by rw [if_pos hi]
    have hs2 : restP gen body = (restP gen body).take (j - 16) ++ nth (restP gen body) (j - 16) :: (restP gen body).drop (j - 16 + 1) := by
      rw [nth_eq hi, List.getElem_cons_drop, List.take_append_drop]
    have hnn : nth (restP gen body) (j - 16) = nth (sealP p gen body) j := by
      rw [← e3]
      simp only [nth, List.getD_eq_getElem?_getD, List.getElem?_drop]
      rw [show 16 + (j - 16) = j by omega]
    rw [hs, ← List.append_assoc] at ht
    conv at ht => rhs; rw [hs2, ← List.append_assoc]
    exact litS_rot _ _ _ _ _ hv (by rw [hnn]; exact hby.nth (by omega)) (by rw [hnn]; exact Ne.symm hne) (by rw [List.length_drop]; omega) ht
end Go.Proofs.Ytghcnipehgjegaa.Plain
end
section
namespace Go.Proofs.Ytghcnipehgjegaa.Kit
open Go.Proofs.Ytghcnipehgjegaa.Plain Go.RowKit Go.Proofs.YtghcnipehgjegaaW.PrintWords Go.Proofs.YtghcnipehgjegaaW.PrintLast Go.Proofs.YtghcnipehgjegaaW.PrintMore
set_option linter.unusedVariables false
set_option linter.unusedSimpArgs false
/-- The cells of bytes. -/
def cellsB (l : List Int) : Array Value := (l.map (Value.int .u8)).toArray
theorem cellsB_size (l : List Int) : (cellsB l).size = l.length := by simp [cellsB]
theorem cellsB_one (l : List Int) : (cellsB l).all (·.oneCell') = true := Array.all_eq_true_iff_forall_mem.2 (fun v hv => by
  simp only [cellsB, List.mem_toArray, List.mem_map] at hv
  obtain ⟨x, _, rfl⟩ := hv
  rfl)
theorem cellsB_get {l : List Int} {i : Nat} (hi : i < l.length) : (cellsB l)[i]? = some (.int .u8 (nth l i)) := by
  rw [nth_eq hi]; simp [cellsB, hi]
/-- Block g is an array of bytes. -/
abbrev AB (W : World) (g t : Nat) (l : List Int) : Prop := W.heap[g]? = some (.cells (cellsB l) t (0, 0))
theorem AB_cell {W : World} {g t : Nat} {l : List Int} (h : AB W g t l) (i : Nat) (hi : i < l.length) : W.cell? ⟨g, i, none⟩ = some (.int .u8 (nth l i)) := (blk_cell h i).trans (cellsB_get hi)
theorem AB_frozen {W : World} {g t : Nat} {l : List Int} (h : AB W g t l) (i : Nat) : W.frozen? ⟨g, i, none⟩ = false := blk_frozen h i
theorem AB_below {W W' : World} {B g t : Nat} {l : List Int} (h : AB W g t l) (hb : Below B W W') (hg : g < B) : AB W' g t l := (hb.block g hg).trans h
theorem AB_kept {W W' : World} {g t : Nat} {l : List Int} (h : AB W g t l) (hb : Below W.heap.size W W') : AB W' g t l := (hb.block g (blk_lt h)).trans h
theorem AB_set {W : World} {g t : Nat} {l : List Int} (h : AB W g t l) (i : Nat) (x : Int) : AB (W.setCell ⟨g, i, none⟩ (.int .u8 x)) g t (l.set i x) := by
  have := blk_set h i (.int .u8 x)
  rw [AB, this]
  simp [cellsB, List.map_set]
theorem rangeB {W : World} {g t : Nat} {l : List Int} (h : AB W g t l) : W.rangeAt g 0 (l.map (Value.int .u8)) := fun j v hv => by
  have hj : j < l.length := by have := (List.getElem?_eq_some_iff.1 hv).1; simpa using this
  rw [Nat.zero_add, blk_cell h j, cellsB, List.getElem?_toArray]
  exact hv
theorem AB_rd {W : World} {g t : Nat} {l : List Int} (h : AB W g t l) (o n : Nat) (hn : o + n ≤ l.length) (hm : n ≤ 9223372036854775807) : RdN W (some ⟨g, o, none⟩) n ((l.drop o).take n) :=
  ⟨by rw [List.length_take, List.length_drop]; omega, hm, fun _ => ⟨_, rfl, fun j p hj => ⟨[.int .u8 p], rfl, rfl, fun i u hu => by
    have hi : i = 0 := by have := (List.getElem?_eq_some_iff.1 hu).1; simpa using this
    subst hi
    simp only [List.getElem?_cons_zero, Option.some.injEq] at hu
    subst hu
    have hjn : j < n := by have := (List.getElem?_eq_some_iff.1 hj).1; rw [List.length_take] at this; omega
    rw [List.getElem?_take_of_lt hjn, List.getElem?_drop] at hj
    rw [Addr.add_mid]
    show W.cell? ⟨g, o + (j * 1 + 0), none⟩ = _
    rw [show o + (j * 1 + 0) = o + j by omega, blk_cell h, cellsB, List.getElem?_toArray, List.getElem?_map, hj]
    rfl⟩⟩⟩
theorem RdN_mk {W : World} {g off m : Nat} {l : List Int} (hl : l.length = m) (hm : m ≤ 9223372036854775807) (h : ∀ j, j < m → W.cell? ⟨g, off + j, none⟩ = some (.int .u8 (nth l j))) : RdN W (some ⟨g, off, none⟩) m l :=
  ⟨hl, hm, fun _ => ⟨_, rfl, fun j p hj => ⟨[.int .u8 p], rfl, rfl, fun i u hu => by
    have hi : i = 0 := by have := (List.getElem?_eq_some_iff.1 hu).1; simpa using this
    subst hi
    simp only [List.getElem?_cons_zero, Option.some.injEq] at hu
    subst hu
    have hjn : j < m := by have := (List.getElem?_eq_some_iff.1 hj).1; omega
    rw [Addr.add_mid]
    show W.cell? ⟨g, off + (j * 1 + 0), none⟩ = _
    rw [show off + (j * 1 + 0) = off + j by omega, h j hjn, nth_eq (by omega)]
    rw [List.getElem?_eq_getElem (by omega)] at hj
    injection hj with hj
    rw [hj]⟩⟩⟩
theorem cell_block {w W : World} {g : Nat} (h : W.heap[g]? = w.heap[g]?) (o : Nat) : W.cell? ⟨g, o, none⟩ = w.cell? ⟨g, o, none⟩ := by
  unfold World.cell?
  simp only [h]
theorem RdN_block {w W : World} {g off m : Nat} {l : List Int} (hr : RdN w (some ⟨g, off, none⟩) m l) (h : W.heap[g]? = w.heap[g]?) : RdN W (some ⟨g, off, none⟩) m l := by
  obtain rfl := C_len hr
  refine RdN_mk rfl (C_max hr) fun j hj => ?_
  obtain ⟨ad, he, hc⟩ := C_at hr j hj
  injection he with he
  subst he
  rw [Addr.add_mid] at hc
  rw [cell_block h]
  exact hc
theorem cutFromG {w : World} {g off n c : Nat} {l : List Int} (h : RdN w (some ⟨g, off, none⟩) n l) (hc : n ≤ c) (j : Nat) (hj : j ≤ n) (k : IntKind) :
    ∃ off', (∀ W : World, (Instr.slice 28 (.slice (some ⟨g, off, none⟩) n c) (some (.int k (j : Int))) none none).run Try.prog W = .ok (.slice (some ⟨g, off', none⟩) (n - j) (c - j)) W) ∧ RdN w (some ⟨g, off', none⟩) (n - j) (l.drop j) := by
  obtain ⟨i0, hi, hzz⟩ := Option.map_eq_some_iff.1 infoU8
  simp only [Prod.mk.injEq] at hzz
  have h1 : ∀ W : World, _ := fun W => cut_from 28 5 k Try.underlying28 hi 1 hzz.2.1 (some ⟨g, off, none⟩) n c (j : Int) (by omega) (by omega) W
  have h2 := RdN_drop h j hj hc
  by_cases hcj : c = j
  · refine ⟨off, fun W => ?_, by rw [if_pos hcj] at h2; exact h2⟩
    have := h1 W
    simp only [Int.toNat_natCast, if_pos hcj] at this
    simpa using this
  · refine ⟨off + j * 1, fun W => ?_, by rw [if_neg hcj, Option.map_some, Addr.add_mid] at h2; exact h2⟩
    have := h1 W
    simp only [Int.toNat_natCast, if_neg hcj, Option.map_some, Addr.add_mid] at this
    exact this
theorem cutMidG {w : World} {g off n c : Nat} {l : List Int} (h : RdN w (some ⟨g, off, none⟩) n l) (hc : n ≤ c) (i j : Nat) (hij : i ≤ j) (hj : j ≤ n) (k k' : IntKind) :
    ∃ off', (∀ W : World, (Instr.slice 28 (.slice (some ⟨g, off, none⟩) n c) (some (.int k (i : Int))) (some (.int k' (j : Int))) none).run Try.prog W = .ok (.slice (some ⟨g, off', none⟩) (j - i) (c - i)) W) ∧ RdN w (some ⟨g, off', none⟩) (j - i) ((l.take j).drop i) := by
  obtain ⟨i0, hi, hzz⟩ := Option.map_eq_some_iff.1 infoU8
  simp only [Prod.mk.injEq] at hzz
  have h1 : ∀ W : World, _ := fun W => cut_mid 28 5 k k' Try.underlying28 hi 1 hzz.2.1 (some ⟨g, off, none⟩) n c (i : Int) (j : Int) (by omega) (by omega) (by omega) hc W
  have h2 := RdN_drop (c := c) (RdN_take h j hj) i hij (by omega)
  by_cases hcj : c = i
  · refine ⟨off, fun W => ?_, by rw [if_pos hcj] at h2; exact h2⟩
    have := h1 W
    simp only [Int.toNat_natCast, if_pos hcj] at this
    simpa using this
  · refine ⟨off + i * 1, fun W => ?_, by rw [if_neg hcj, Option.map_some, Addr.add_mid] at h2; exact h2⟩
    have := h1 W
    simp only [Int.toNat_natCast, if_neg hcj, Option.map_some, Addr.add_mid] at this
    exact this
theorem AB_new (W : World) (t : Nat) (l : List Int) : AB (W.alloc (.cells (cellsB l) t)) W.heap.size t l := blk_new W _
section
variable {P : Program} {ops : Array Oper} {rest : List Oper} {o : Oper} {a : Act} {Q : Exit → Act → World → Prop}
theorem loadA {W : World} (hgd : o.guard = none) (ty : TypeId) (x : Operand) (ho : o.op = .load ty x) (g n : Nat) (e : TypeId) (hx : a.eval x = .pointer (some ⟨g, 0, none⟩)) (l : List Int) {t : Nat} (h : AB W g t l)
    (hu : P.underlying ty = some (.array n e)) (hi : (P.info? ty).map (·.size) = some l.length) (k : wpList P ops Q rest (a.put o.dst (.agg (cellsB l))) W) : wpList P ops Q (o :: rest) a W :=
  wpList_load_mid hgd ty x ho g 0 hx (l.map (Value.int .u8)) _ (rangeB h) hu rfl (by simpa using hi) k
theorem rangeS {W : World} {g off m : Nat} {l : List Int} (h : RdN W (some ⟨g, off, none⟩) m l) (n : Nat) : W.rangeAt g off ((l.take n).map (Value.int .u8)) := by
  obtain rfl := C_len h
  intro j v hv
  have hj : j < n ∧ j < l.length := by have := (List.getElem?_eq_some_iff.1 hv).1; rw [List.length_map, List.length_take] at this; omega
  obtain ⟨ad, he, hc⟩ := C_at h j hj.2
  injection he with he
  subst he
  rw [List.getElem?_map, List.getElem?_take_of_lt hj.1, List.getElem?_eq_getElem hj.2] at hv
  simp only [Option.map_some, Option.some.injEq] at hv
  rw [← hv, ← nth_eq hj.2]
  rw [Addr.add_mid] at hc
  exact hc
theorem loadS {W : World} (hgd : o.guard = none) (ty : TypeId) (x : Operand) (ho : o.op = .load ty x) (g off n : Nat) (e : TypeId) (hx : a.eval x = .pointer (some ⟨g, off, none⟩)) (m : Nat) (l : List Int) (h : RdN W (some ⟨g, off, none⟩) m l)
    (hu : P.underlying ty = some (.array n e)) (hi : (P.info? ty).map (·.size) = some n) (hn : n ≤ m) (k : wpList P ops Q rest (a.put o.dst (.agg (cellsB (l.take n)))) W) : wpList P ops Q (o :: rest) a W :=
  wpList_load_mid hgd ty x ho g off hx ((l.take n).map (Value.int .u8)) _ (rangeS h n) hu rfl (by rw [hi, List.length_map, List.length_take, C_len h, Nat.min_eq_left hn]) k
theorem storeA {w0 W : World} (B : Nat) (hgd : o.guard = none) (ty : TypeId) (x y : Operand) (ho : o.op = .store ty x y) (g : Nat) (l l' : List Int) (hx : a.eval x = .pointer (some ⟨g, 0, none⟩)) (hy : a.eval y = .agg (cellsB l'))
    {t : Nat} (h : AB W g t l) (hl : l.length = l'.length) (hi : (P.info? ty).map (·.size) = some l'.length) (HB : Below B w0 W) (hBg : B ≤ g)
    (k : ∀ w', AB w' g t l' → Below B w0 w' → (∀ j, j ≠ g → w'.heap[j]? = W.heap[j]?) → w'.heap.size = W.heap.size → wpList P ops Q rest (a.put o.dst undef) w') : wpList P ops Q (o :: rest) a W := by
  refine wpList_plain hgd fun K hK => ?_
  unfold Oper.wp execOp
  simp only [ho, hx, hy, Instr.storeAt, Instr.sureAddr, Sem.run_bind, Sem.run_pure, Result.andThen_ok, run_storeVar_row W g t ty (cellsB l) (cellsB l') h (by rw [cellsB_size]; exact hi) (by rw [cellsB_size, cellsB_size]; exact hl) (cellsB_one l')]
  exact hK _ _ (k _ (setRow_heap W g (cellsB l) (cellsB l') t _ h) (below_setRow HB hBg _) (fun j hj => setRow_other W g j _ hj) (by simp [World.setRow]))
theorem src_cells {W : World} {A : Option Addr} {m : Nat} {ys : List Int} (hr : RdN W A m ys) (h0 : 0 < m) : ∃ ad, A = some ad ∧ ∀ j v, (ys.map (Value.int .u8))[j]? = some v → W.cell? (ad.add j) = some v := by
  obtain rfl := C_len hr
  obtain ⟨ad, rfl, _⟩ := C_at hr 0 h0
  refine ⟨ad, rfl, fun j v hv => ?_⟩
  have hj : j < ys.length := by have := (List.getElem?_eq_some_iff.1 hv).1; simpa using this
  obtain ⟨ad', he, hc⟩ := C_at hr j hj
  injection he with he
  subst he
  rw [hc, nth_eq hj]
  rw [List.getElem?_map, List.getElem?_eq_getElem hj] at hv
  simpa using hv
theorem run_copyA {W : World} (dT sT ty elem : TypeId) (hu : P.underlying dT = some (.slice elem)) (hsz : (P.info? elem).map (·.size) = some 1) (g off dLen dCap : Nat) (A : Option Addr) (m c : Nat) (l ys : List Int) {t : Nat} (h : AB W g t l)
    (hr : RdN W A m ys) (hm : m ≤ dLen) (hfit : off + m ≤ l.length) : ∃ w', (Builtin.copy_ #[dT, sT] ty #[.slice (some ⟨g, off, none⟩) dLen dCap, .slice A m c]).run P W = .ok (goInt (m : Int)) w' ∧ AB w' g t (splice l off ys) ∧ w' = W.setRow g (cellsB (splice l off ys)) := by
  obtain rfl := C_len hr
  by_cases h0 : ys.length = 0
  · have hy : ys = [] := List.eq_nil_of_length_eq_zero h0
    have e : splice l off ys = l := by simp [splice, hy]
    have hs : W.setRow g (cellsB l) = W := by
      have h1 : (W.setRow g (cellsB l)).heap = W.heap := by
        apply Array.ext_getElem?
        intro i
        by_cases hi : i = g
        · subst hi; rw [setRow_heap W i (cellsB l) (cellsB l) t _ h]; exact h.symm
        · exact setRow_other W g i _ hi
      cases W
      simp only [World.setRow] at h1 ⊢
      rw [h1]
    refine ⟨W, ?_, by rw [e]; exact h, by rw [e, hs]⟩
    rw [run_copy_none (P := P) W dT sT ty elem _ A dLen dCap ys.length c hu hsz (by rw [h0]; exact Nat.zero_min _), h0]
    rfl
  · obtain ⟨ad, rfl, hc⟩ := src_cells hr (by omega)
    have hw := run_copy_row (P := P) W dT sT ty elem g off dLen dCap ad ys.length c (cellsB l) t (ys.map (Value.int .u8)) hu hsz h (by rw [List.length_map]; exact (Nat.min_eq_left hm).symm) hc (by rw [cellsB_size, List.length_map]; exact hfit) (fun v hv => by
      obtain ⟨x, _, rfl⟩ := List.mem_map.1 hv
      rfl)
    have e : ((cellsB l).toList.take off ++ ys.map (Value.int .u8) ++ (cellsB l).toList.drop (off + (ys.map (Value.int .u8)).length)).toArray = cellsB (splice l off ys) := by
      simp [cellsB, splice, List.map_take, List.map_drop]
    rw [e, List.length_map] at hw
    exact ⟨_, hw, setRow_heap W g _ _ t _ h, rfl⟩
theorem copyA {w0 W : World} (B : Nat) (hgd : o.guard = none) (d s : Operand) (dT sT : TypeId) (ho : o.op = .call { callee := .builtin .copy, args := #[d, s], argTypes := #[dT, sT] }) (elem : TypeId) (hu : P.underlying dT = some (.slice elem)) (hsz : (P.info? elem).map (·.size) = some 1)
    (g off dLen dCap : Nat) (A : Option Addr) (m c : Nat) (hd : a.eval d = .slice (some ⟨g, off, none⟩) dLen dCap) (hs : a.eval s = .slice A m c) (l ys : List Int) {t : Nat} (h : AB W g t l) (hr : RdN W A m ys) (hm : m ≤ dLen) (hfit : off + m ≤ l.length) (HB : Below B w0 W) (hBg : B ≤ g)
    (k : ∀ w', AB w' g t (splice l off ys) → Below B w0 w' → (∀ j, j ≠ g → w'.heap[j]? = W.heap[j]?) → w'.heap.size = W.heap.size → wpList P ops Q rest (a.put o.dst (goInt (m : Int))) w') : wpList P ops Q (o :: rest) a W := by
  refine wpList_plain hgd fun K hK => ?_
  obtain ⟨w', hrun, h1, rfl⟩ := run_copyA (P := P) dT sT o.type elem hu hsz g off dLen dCap A m c l ys h hr hm hfit
  unfold Oper.wp
  simp [execOp, ho, resolve, invoke, builtin, hd, hs, hrun, Result.andThen]
  exact hK _ _ (k _ h1 (below_setRow HB hBg _) (fun j hj => setRow_other W g j _ hj) (by simp [World.setRow]))
theorem copyA_step {Kc : Act → World → Prop} {w0 W : World} (B : Nat) (hw : Region.wanted o (yielded ops a.tmps) = true) (d s : Operand) (dT sT : TypeId) (ho : o.op = .call { callee := .builtin .copy, args := #[d, s], argTypes := #[dT, sT] }) (elem : TypeId) (hu : P.underlying dT = some (.slice elem)) (hsz : (P.info? elem).map (·.size) = some 1)
    (g off dLen dCap : Nat) (A : Option Addr) (m c : Nat) (hd : a.eval d = .slice (some ⟨g, off, none⟩) dLen dCap) (hs : a.eval s = .slice A m c) (l ys : List Int) {t : Nat} (h : AB W g t l) (hr : RdN W A m ys) (hm : m ≤ dLen) (hfit : off + m ≤ l.length) (HB : Below B w0 W) (hBg : B ≤ g)
    (k : ∀ w', AB w' g t (splice l off ys) → Below B w0 w' → (∀ j, j ≠ g → w'.heap[j]? = W.heap[j]?) → w'.heap.size = W.heap.size → Kc (a.put o.dst (goInt (m : Int))) w') :
    if Region.wanted o (yielded ops a.tmps) = true then Oper.wp P o a W Kc Q else Kc (a.put o.dst undef) W := by
  rw [if_pos hw]
  obtain ⟨w', hrun, h1, rfl⟩ := run_copyA (P := P) dT sT o.type elem hu hsz g off dLen dCap A m c l ys h hr hm hfit
  unfold Oper.wp
  simp [execOp, ho, resolve, invoke, builtin, hd, hs, hrun, Result.andThen]
  exact k _ h1 (below_setRow HB hBg _) (fun j hj => setRow_other W g j _ hj) (by simp [World.setRow])
theorem storeA_step {Kc : Act → World → Prop} {w0 W : World} (B : Nat) (hw : Region.wanted o (yielded ops a.tmps) = true) (ty : TypeId) (x y : Operand) (ho : o.op = .store ty x y) (hN : o.dst = none) (g : Nat) (l l' : List Int) (hx : a.eval x = .pointer (some ⟨g, 0, none⟩)) (hy : a.eval y = .agg (cellsB l'))
    {t : Nat} (h : AB W g t l) (hl : l.length = l'.length) (hi : (P.info? ty).map (·.size) = some l'.length) (HB : Below B w0 W) (hBg : B ≤ g)
    (k : ∀ w', AB w' g t l' → Below B w0 w' → (∀ j, j ≠ g → w'.heap[j]? = W.heap[j]?) → w'.heap.size = W.heap.size → Kc a w') : if Region.wanted o (yielded ops a.tmps) = true then Oper.wp P o a W Kc Q else Kc (a.put none undef) W := by
  rw [if_pos hw]
  unfold Oper.wp execOp
  simp only [ho, hN, hx, hy, Instr.storeAt, Instr.sureAddr, Sem.run_bind, Sem.run_pure, Result.andThen_ok, run_storeVar_row W g t ty (cellsB l) (cellsB l') h (by rw [cellsB_size]; exact hi) (by rw [cellsB_size, cellsB_size]; exact hl) (cellsB_one l')]
  show Kc (a.put o.dst undef) _
  rw [hN]
  exact k _ (setRow_heap W g (cellsB l) (cellsB l') t _ h) (below_setRow HB hBg _) (fun j hj => setRow_other W g j _ hj) (by simp [World.setRow])
theorem yieldsA {S : World → Prop} (hw : Region.wanted o (yielded ops a.tmps) = true) (ty : TypeId) (x : Operand) (ho : o.op = .load ty x) (g n : Nat) (e : TypeId) (hx : a.eval x = .pointer (some ⟨g, 0, none⟩)) (l : List Int) {t : Nat} (h : ∀ w, S w → AB w g t l)
    (hu : P.underlying ty = some (.array n e)) (hi : (P.info? ty).map (·.size) = some l.length) : YieldsIf P ops S o (.agg (cellsB l)) a :=
  yieldsIf_load_mid hw ty x ho g 0 hx (l.map (Value.int .u8)) _ (fun w hS => rangeB (h w hS)) hu rfl (by simpa using hi)
theorem yieldsS {S : World → Prop} (hw : Region.wanted o (yielded ops a.tmps) = true) (ty : TypeId) (x : Operand) (ho : o.op = .load ty x) (g off n : Nat) (e : TypeId) (hx : a.eval x = .pointer (some ⟨g, off, none⟩)) (m : Nat) (l : List Int) (h : ∀ w, S w → RdN w (some ⟨g, off, none⟩) m l)
    (hl : l.length = m) (hu : P.underlying ty = some (.array n e)) (hi : (P.info? ty).map (·.size) = some n) (hn : n ≤ m) : YieldsIf P ops S o (.agg (cellsB (l.take n))) a :=
  yieldsIf_load_mid hw ty x ho g off hx ((l.take n).map (Value.int .u8)) _ (fun w hS => rangeS (h w hS) n) hu rfl (by rw [hi, List.length_map, List.length_take, hl, Nat.min_eq_left hn])
end
/-- A result that is an array. -/
theorem resA {P : Program} {fn : Func} {p : Tmp} {ty : TypeId} (h : fn.results = #[.cell p ty]) (tmps : Array Value) (w : World) (g n : Nat) (e : TypeId) (l : List Int) {t : Nat} (hp : tmps.getD p undef = .pointer (some ⟨g, 0, none⟩)) (hg : AB w g t l)
    (hu : P.underlying ty = some (.array n e)) (hi : (P.info? ty).map (·.size) = some l.length) : (results fn tmps).run P w = .ok (.agg (cellsB l)) w :=
  results_single h (.cell g t (cellsB l) (0, 0) _ hp hg hu rfl (by rw [cellsB_size]; exact hi) .nil)
/-- An array, and whether. -/
theorem resAB {P : Program} {fn : Func} {p u : Tmp} {ty : TypeId} (h : fn.results = #[.cell p ty, .tmp u]) (tmps : Array Value) (w : World) (g n : Nat) (e : TypeId) (l : List Int) {t : Nat} (hp : tmps.getD p undef = .pointer (some ⟨g, 0, none⟩)) (hg : AB w g t l)
    (hu : P.underlying ty = some (.array n e)) (hi : (P.info? ty).map (·.size) = some l.length) : (results fn tmps).run P w = .ok (.tuple #[.agg (cellsB l), tmps.getD u undef]) w :=
  results_ct h tmps w g t (cellsB l) (0, 0) _ hp hg hu rfl (by rw [cellsB_size]; exact hi)
/-- The whole array, as the walk's own steps ask for it. -/
theorem lcB {P : Program} {W : World} {g t : Nat} {l : List Int} (h : AB W g t l) {n : Nat} (hn : l.length = n) : (loadCellsFrom ⟨g, 0, none⟩ 0 n #[]).run P W = .ok (cellsB l) W := by
  subst hn
  have := run_loadCells_list (P := P) W ⟨g, 0, none⟩ (l.map (Value.int .u8)) (fun j v hv => by rw [Addr.add_mid]; exact rangeB h j v hv)
  simpa [loadCells, cellsB] using this
theorem eqItems_bytes {P : Program} (d : Nat) {e : TypeId} (he : P.underlying e = some (.int .u8)) (a b : List Int) (w : World) : ∀ is : List Nat, (∀ i ∈ is, i < a.length ∧ i < b.length) →
    (Op.eqItems (d + 1) e 1 (cellsB a) (cellsB b) is).run P w = .ok (is.all fun i => nth a i == nth b i) w
  | [], _ => by simp [Op.eqItems]
  | i :: is, h => by
    obtain ⟨h1, h2⟩ := h i (by simp)
    have hp : P.plainKey e = true := by simp [Program.plainKey, he]
    have e1 : (part e (cellsB a) (i * 1)).run P w = .ok (.int .u8 (nth a i)) w := run_part_plain w hp (by rw [Nat.mul_one]; exact cellsB_get h1)
    have e2 : (part e (cellsB b) (i * 1)).run P w = .ok (.int .u8 (nth b i)) w := run_part_plain w hp (by rw [Nat.mul_one]; exact cellsB_get h2)
    have e3 := run_equalIn_int (P := P) w d e .u8 .u8 (nth a i) (nth b i) he
    have ih := eqItems_bytes d he a b w is (fun j hj => h j (by simp [hj]))
    simp only [Op.eqItems, Sem.run_bind, e1, e2, e3, Result.andThen_ok, List.all_cons]
    cases hq : (nth a i == nth b i)
    · simp
    · simpa using ih
theorem same_bytes {a b : List Int} (h : a.length = b.length) : ((List.range a.length).all fun i => nth a i == nth b i) = decide (a = b) := by
  rw [Bool.eq_iff_iff, List.all_eq_true, decide_eq_true_eq]
  constructor
  · intro hh
    apply List.ext_getElem h
    intro i h1 h2
    have := hh i (List.mem_range.2 h1)
    rw [beq_iff_eq, nth_eq h1, nth_eq h2] at this
    exact this
  · rintro rfl i _
    simp
theorem eq_bytes {P : Program} (d : Nat) {t e : TypeId} {n : Nat} {i : TypeInfo} (hu : P.underlying t = some (.array n e)) (hi : P.info? e = some i) (he : P.underlying e = some (.int .u8)) (hc : P.cellsOf e = 1) (a b : List Int) (ha : a.length = n) (hb : b.length = n) (w : World) :
    (Op.equalIn (d + 1 + 1) t (.agg (cellsB a)) (.agg (cellsB b))).run P w = .ok (decide (a = b)) w := by
  rw [run_equalIn_array w (d + 1) (cellsB a) (cellsB b) hu hi, hc, eqItems_bytes d he a b w _ (fun j hj => by rw [List.mem_range] at hj; omega), ← ha, same_bytes (by omega)]
end Go.Proofs.Ytghcnipehgjegaa.Kit
end
section
namespace Go.Proofs.Ytghcnipehgjegaa.Kit
open Go.RowKit Go.Proofs.YtghcnipehgjegaaW.PrintWords Go.Proofs.Ytghcnipehgjegaa.Plain
set_option linter.unusedVariables false
set_option linter.unusedSimpArgs false
theorem okWide_array {P : Program} {w : World} {r : Reach} {base : Nat} {t e : TypeId} {n : Nat} {v : Value} (ht : P.underlying t = some (.array n e)) (h : Value.okWide P w r base t v) : ∃ cs, v = .agg cs ∧ cs.size = P.cellsOf t := by
  simp only [Value.okWide, ht] at h
  obtain ⟨cs, h1, h2, _⟩ := h
  exact ⟨cs, h1, h2⟩
/-- An array of so many bytes. -/
def Ar (n : Nat) : Type := { l : List Int // l.length = n }
abbrev ArB (n : Nat) : Kd (Ar n) := flat n (fun x => x.1.map (Value.int .u8)) (fun x => by rw [List.length_map]; exact x.2) (fun x u hu => by obtain ⟨y, _, rfl⟩ := List.mem_map.1 hu; rfl)
theorem opens_arr {P : Program} {t e : TypeId} {n : Nat} (ht : P.underlying t = some (.array n e)) (he : P.underlying e = some (.int .u8)) (hc : P.cellsOf e = 1) (hn : P.cellsOf t = n) : Opens P t (ArB n) (fun x => ∀ y ∈ x.1, (Lit.int .u8 y).wf = true) := fun enc w held fuel cs x hx => by
  obtain ⟨xs, m, _, _, hl, hlen, hel⟩ := DataW.trod_array ht hx
  rw [hc] at hel
  rw [hn] at hl
  have each : ∀ i : Fin n, ∃ y : Int, cs[i.1]? = some (.int .u8 y) ∧ (Lit.int .u8 y).wf = true := by
    intro i
    have h1 := hel i.1 i.2
    rw [List.getElem?_eq_getElem (by rw [hlen]; exact i.2), Nat.mul_one] at h1
    obtain ⟨y, h2, _, h3⟩ := DataW.trod_int he h1
    refine ⟨y, ?_, h3⟩
    have h4 : ((cs.drop i.1).take 1)[0]? = some (Value.int .u8 y) := by rw [h2]; rfl
    rwa [List.getElem?_take_of_lt (by omega), List.getElem?_drop, Nat.add_zero] at h4
  let f : Fin n → Int := fun i => Classical.choose (each i)
  have hf : ∀ i, cs[i.1]? = some (.int .u8 (f i)) ∧ (Lit.int .u8 (f i)).wf = true := fun i => Classical.choose_spec (each i)
  refine ⟨⟨List.ofFn f, List.length_ofFn⟩, ?_, fun y hy => ?_⟩
  · show cs = (List.ofFn f).map (Value.int .u8)
    apply List.ext_getElem?
    intro i
    by_cases hi : i < n
    · rw [(hf ⟨i, hi⟩).1, List.getElem?_map, List.getElem?_eq_getElem (by rw [List.length_ofFn]; exact hi), List.getElem_ofFn]
      rfl
    · rw [List.getElem?_eq_none (by omega), List.getElem?_eq_none (by rw [List.length_map, List.length_ofFn]; omega)]
  · obtain ⟨i, rfl⟩ := List.mem_ofFn.1 hy
    exact (hf i).2
theorem agg_arr {n : Nat} {w : World} {cs : Array Value} {l : Ar n} (h : (ArB n).K w l cs.toList) : cs = cellsB l.1 := by
  have : cs.toList = l.1.map (Value.int .u8) := h
  rw [cellsB, ← this]
end Go.Proofs.Ytghcnipehgjegaa.Kit
end
section
namespace Go.Proofs.Ytghcnipehgjegaa.Wire
open Go.RowKit Go.Proofs.YtghcnipehgjegaaW.PrintWords Go.Proofs.YtghcnipehgjegaaW.PrintLast Go.Proofs.YtghcnipehgjegaaW.PrintMore Go.Proofs.Ytghcnipehgjegaa.Kit Go.Proofs.Ytghcnipehgjegaa.Plain
set_option linter.unusedVariables false
set_option linter.unusedSimpArgs false
/-- Noughts. -/
def zerB (n : Nat) : List Int := List.replicate n 0
theorem zerB_len (n : Nat) : (zerB n).length = n := List.length_replicate
theorem infoKey : (Try.prog.info? 56).map (fun i => (i.zero, i.size)) = some (some (.agg (cellsB (zerB 32))), 32) := by kernel_rfl
theorem infoSum : (Try.prog.info? 77).map (fun i => (i.zero, i.size)) = some (some (.agg (cellsB (zerB 16))), 16) := by kernel_rfl
theorem take_foldl {α : Type} (f : α → Int → α) (x : α) {l : List Int} {i : Nat} (h : i < l.length) : (l.take (i + 1)).foldl f x = f ((l.take i).foldl f x) (nth l i) := by
  rw [take_snoc h, List.foldl_append]; rfl
def outAt (x : Int) (i : Nat) : List Int := outS i x ++ List.replicate (16 - i) 0
def lcgN : Nat → Int → Int
  | 0, x => x
  | n + 1, x => lcg (lcgN n x)
theorem lcgN_succ : ∀ (n : Nat) (x : Int), lcgN n (lcg x) = lcgN (n + 1) x
  | 0, _ => rfl
  | n + 1, x => by rw [lcgN, lcgN_succ n x]; rfl
theorem outS_snoc : ∀ (n : Nat) (x : Int), outS (n + 1) x = outS n x ++ [topB (lcgN (n + 1) x)]
  | 0, _ => rfl
  | n + 1, x => by rw [outS, outS_snoc n, lcgN_succ]; rfl
theorem outAt_len {x : Int} {i : Nat} (h : i ≤ 16) : (outAt x i).length = 16 := by simp [outAt, outS_len]; omega
theorem outAt_set {x : Int} {i : Nat} (h : i < 16) : (outAt x i).set i (topB (lcgN (i + 1) x)) = outAt x (i + 1) := by
  unfold outAt
  rw [List.set_append_right _ _ (by rw [outS_len]; exact Nat.le_refl _), outS_len, Nat.sub_self]
  obtain ⟨m, hm⟩ : ∃ m, 16 - i = m + 1 := ⟨16 - i - 1, by omega⟩
  rw [hm, List.replicate_succ, List.set_cons_zero, outS_snoc, List.append_assoc, show 16 - (i + 1) = m by omega]
  rfl
set_option maxHeartbeats 1600000 in
theorem litsum_any (K : List Int) (hK : K.length = 32) (A : Option Addr) (n c : Nat) (b : List Int) (w : World) (hr : RdN w A n b) (hyK : Byt K) (hyb : Byt b) :
    Calls Try.prog 66 #[.agg (cellsB K), .slice A n c] w fun e w' => e = .returned (.agg (cellsB (litS K b))) ∧ Below w.heap.size w w' := by
  obtain rfl := C_len hr
  have hmx := C_max hr
  have HR := Aside0.mk hr
  clear hr
  have zK := (zero_of_info infoSum).1
  have HB := Aside0.mk (Below.refl w.heap.size w)
  have HK := Aside0.mk hK
  clear hK
  have HYK := Aside0.mk hyK
  have HYB := Aside0.mk hyb
  clear hyK hyb
  go_enter Try.func66, Try.ntmps66
  go_wp2
  obtain ⟨W0, hW0⟩ : ∃ W, W = (w.alloc (.cells (cellsB K) 56)).alloc (.cells (cellsB (zerB 16)) 77) := ⟨_, rfl⟩
  rw [← hW0]
  have hb : Below w.heap.size w W0 := by rw [hW0]; exact below_alloc (below_alloc (Below.refl _ _) _) _
  have HAK := Aside0.mk (show AB W0 w.heap.size 56 K by rw [hW0]; exact AB_kept (AB_new w _ K) (below_alloc (Below.refl _ _) _))
  have HAR := Aside0.mk (show AB W0 (w.heap.size + 1) 77 (zerB 16) by rw [hW0]; have := AB_new (w.alloc (.cells (cellsB K) 56)) 77 (zerB 16); simpa using this)
  have HSZ := Aside0.mk (show W0.heap.size = w.heap.size + 2 by rw [hW0]; simp)
  replace HR := Aside0.mk (Kd.C_below HR.out hb)
  clear HB
  have HB := Aside0.mk hb
  clear hb hW0
  obtain ⟨pK, hpK⟩ : ∃ p, p = w.heap.size := ⟨_, rfl⟩
  rw [← hpK] at HAK HAR HSZ ⊢
  have HPK := Aside0.mk hpK
  clear hpK
  go_loopg [5, 6] 32 (fun gk v5 v6 w' => ∃ i : Nat, v5 = .int .u64 ((K.take i).foldl mixK (b.length : Int)) ∧ v6 = .int .i64 (i : Int) ∧ i + gk = 32 ∧ w' = W0)
  case atStart => exact ⟨0, rfl, rfl, by omega, rfl⟩
  case round =>
    obtain ⟨i, rfl, rfl, hi, rfl⟩ := hrel
    by_cases hlt : i < 32
    · have c1 := AB_cell HAK.out i (by rw [HK.out]; exact hlt)
      have d1 : (i : Int) < 32 := by omega
      have d2 : (0 : Int) ≤ (i : Int) := by omega
      have HF := Aside0.mk (take_foldl mixK (b.length : Int) (show i < K.length by rw [HK.out]; exact hlt))
      obtain ⟨x, hx⟩ : ∃ x, x = (K.take i).foldl mixK (b.length : Int) := ⟨_, rfl⟩
      obtain ⟨k, hk⟩ : ∃ k, k = nth K i := ⟨_, rfl⟩
      rw [← hx] at HF ⊢
      have e1 : IntKind.u64.wrap k = k := by have := HYK.out.nth (show i < K.length by rw [HK.out]; exact hlt); rw [← hk] at this; exact wrap_u64_in _ (by omega) (by omega)
      rw [← hk] at HF c1
      have HX := Aside0.mk hx
      clear hx hk
      go_wp2
      go_roundg (gk - 1)
      case measure => omega
      case rel => exact ⟨i + 1, by rw [HF.out]; rfl, by go_num, by omega, rfl⟩
    · obtain rfl : i = 32 := by omega
      have d1 : ¬ (((32 : Nat) : Int) < 32) := by omega
      obtain ⟨x, hx⟩ : ∃ x, x = (K.take 32).foldl mixK (b.length : Int) := ⟨_, rfl⟩
      rw [← hx]
      rw [List.take_of_length_le (by rw [HK.out]; exact Nat.le_refl _)] at hx
      have HX := Aside0.mk hx
      clear hx hlt
      go_wp2
      go_loopg [5, 7] b.length (fun gk v5 v7 w' => ∃ i : Nat, v5 = .int .u64 ((b.take i).foldl mixB x) ∧ v7 = .int .i64 (i : Int) ∧ i + gk = b.length ∧ w' = wr)
      case atStart => exact ⟨0, rfl, rfl, by omega, rfl⟩
      case round =>
        obtain ⟨i, rfl, rfl, hi, rfl⟩ := hrel
        by_cases hlt : i < b.length
        · obtain ⟨ad, rfl, c1⟩ := C_at HR.out i hlt
          have d1 : (i : Int) < (b.length : Int) := by omega
          have d2 : (0 : Int) ≤ (i : Int) := by omega
          have HF := Aside0.mk (take_foldl mixB x hlt)
          obtain ⟨z, hz⟩ : ∃ z, z = (b.take i).foldl mixB x := ⟨_, rfl⟩
          obtain ⟨k, hk⟩ : ∃ k, k = nth b i := ⟨_, rfl⟩
          rw [← hz] at HF ⊢
          have e1 : IntKind.u64.wrap k = k := by have := HYB.out.nth hlt; rw [← hk] at this; exact wrap_u64_in _ (by omega) (by omega)
          rw [← hk] at HF c1
          clear hz hk
          go_wp2
          go_roundg (gk - 1)
          case measure => omega
          case rel => exact ⟨i + 1, by rw [HF.out]; rfl, by go_num, by omega, rfl⟩
        · obtain rfl : i = b.length := by omega
          rw [List.take_length]
          obtain ⟨z, hz⟩ : ∃ z, z = b.foldl mixB x := ⟨_, rfl⟩
          rw [← hz]
          have HZ := Aside0.mk (show z = litX K b by rw [hz, HX.out]; rfl)
          clear hz hlt
          go_wp2
          obtain ⟨W1, hW1⟩ : ∃ W, W = wr.alloc (.cells (cellsB (zerB 16)) 77) := ⟨_, rfl⟩
          rw [← hW1]
          obtain ⟨pO, hpO⟩ : ∃ p, p = wr.heap.size := ⟨_, rfl⟩
          have hb : Below wr.heap.size wr W1 := by rw [hW1]; exact below_alloc (Below.refl _ _) _
          have HO := Aside0.mk (show AB W1 pO 77 (outAt z 0) by rw [hW1, hpO]; exact AB_new wr _ _)
          replace HAR := Aside0.mk (AB_kept HAR.out hb)
          replace HB := Aside0.mk (HB.out.trans (hb.mono HB.out.size))
          have HPO := Aside0.mk (show pO = pK + 2 by rw [hpO, HSZ.out])
          rw [← hpO]
          clear hb hW1 hpO HAK HR HSZ
          go_loopg [5, 9] 16 (fun gk v5 v9 w' => ∃ i : Nat, v5 = .int .u64 (lcgN i z) ∧ v9 = .int .i64 (i : Int) ∧ i + gk = 16 ∧ Aside0 (AB w' pO 77 (outAt z i)) ∧ Aside0 (AB w' (pK + 1) 77 (zerB 16)) ∧ Aside0 (Below w.heap.size w w'))
          case atStart => exact ⟨0, rfl, rfl, by omega, HO, HAR, HB⟩
          case round =>
            clear HO HAR HB
            obtain ⟨i, rfl, rfl, hi, HO, HAR, HB⟩ := hrel
            by_cases hlt : i < 16
            · have c1 := AB_cell HO.out i (by rw [outAt_len (by omega)]; exact hlt)
              have z1 := AB_frozen HO.out i
              have d1 : (i : Int) < 16 := by omega
              have d2 : (0 : Int) ≤ (i : Int) := by omega
              have ht := lcg_range (lcgN i z)
              have HV := Aside0.mk (show lcg (lcgN i z) / 72057594037927936 % 256 = topB (lcgN (i + 1) z) by show _ = topB (lcg (lcgN i z)); unfold topB; omega)
              have HPN := Aside0.mk (show pK + 1 ≠ pO by have := HPO.out; omega)
              have HPG := Aside0.mk (show w.heap.size ≤ pO by have := HPO.out; have := HPK.out; omega)
              clear ht
              go_wp2
              go_roundg (gk - 1)
              case measure => omega
              case rel =>
                refine ⟨i + 1, rfl, by go_num, by omega, ⟨?_⟩, ⟨blk_far HAR.out HPN.out _⟩, ⟨below_set HB.out HPG.out⟩⟩
                have := AB_set HO.out i (topB (lcgN (i + 1) z))
                rw [outAt_set hlt, ← HV.out] at this
                exact this
            · obtain rfl : i = 16 := by omega
              have d1 : ¬ (((16 : Nat) : Int) < 16) := by omega
              obtain ⟨R, hR⟩ : ∃ R, R = outAt z 16 := ⟨_, rfl⟩
              rw [← hR] at HO
              have HRL := Aside0.mk (show R.length = 16 by rw [hR]; exact outAt_len (Nat.le_refl _))
              have HE := Aside0.mk (show R = litS K b by rw [hR]; unfold outAt litS; rw [← HZ.out]; simp)
              clear hR
              have HPG := Aside0.mk (show w.heap.size ≤ pK + 1 by have := HPK.out; omega)
              clear hlt
              go_wp2_with (first
                | ((with_reducible refine gate_ (.load 77 (.tmp 8)) rfl ?_); (refine loadA rfl 77 (.tmp 8) rfl pO 16 5 rfl (R) HO.out (by kernel_rfl) (by rw [HRL.out]; exact (zero_of_info infoSum).2) ?_))
                | ((with_reducible refine gate_ (.store 77 (.tmp 4) (.tmp 51)) rfl ?_); (refine storeA w.heap.size rfl 77 (.tmp 4) (.tmp 51) rfl (pK + 1) (zerB 16) (R) rfl rfl HAR.out (by rw [HRL.out, zerB_len]) (by rw [HRL.out]; exact (zero_of_info infoSum).2) HB.out HPG.out ?_; intro w5 ha hb _ _; clear HB HAR; have HB := Aside0.mk hb; have HAR := Aside0.mk ha; clear ha hb)))
              refine bodyPost_ret (resA rfl _ _ (pK + 1) 16 5 R rfl HAR.out (by kernel_rfl) (by rw [HRL.out]; exact (zero_of_info infoSum).2)) rfl ?_
              exact ⟨by rw [HE.out], HB.out⟩
/-- The little cipher, whatever it is. -/
theorem lit_sum (L : Array Value) (K : List Int) (hK : K.length = 32) (A : Option Addr) (n c : Nat) (b : List Int) (w : World) (hr : RdN w A n b) (hyK : Byt K) (hyb : Byt b) :
    Calls Try.prog 65 #[.agg L, .agg (cellsB K), .slice A n c] w fun e w' => e = .returned (.agg (cellsB (litS K b))) ∧ Below w.heap.size w w' := by
  obtain rfl := C_len hr
  have HR := Aside0.mk hr
  have HK := Aside0.mk hK
  have HY := Aside0.mk (And.intro hyK hyb)
  clear hr hK hyK hyb
  have zK := (zero_of_info infoSum).1
  have HB := Aside0.mk (Below.refl w.heap.size w)
  go_enter Try.func65, Try.ntmps65
  go_upto_region 1 with (fail)
  obtain ⟨W0, hW0⟩ : ∃ W, W = ((w.alloc (.cells L 59)).alloc (.cells (cellsB K) 56)).alloc (.cells (cellsB (zerB 16)) 77) := ⟨_, rfl⟩
  rw [← hW0]
  have hb : Below w.heap.size w W0 := by rw [hW0]; exact below_alloc (below_alloc (below_alloc (Below.refl _ _) _) _) _
  have HAK := Aside0.mk (show AB W0 (w.heap.size + 1) 56 K by rw [hW0]; have := AB_new (w.alloc (.cells L 59)) 56 K; exact AB_kept (by simpa using this) (below_alloc (Below.refl _ _) _))
  have HAR := Aside0.mk (show AB W0 (w.heap.size + 1 + 1) 77 (zerB 16) by rw [hW0]; have := AB_new ((w.alloc (.cells L 59)).alloc (.cells (cellsB K) 56)) 77 (zerB 16); simpa using this)
  replace HR := Aside0.mk (Kd.C_below HR.out hb)
  clear HB
  have HB := Aside0.mk hb
  clear hb hW0
  obtain ⟨pR, hpR⟩ : ∃ p, p = w.heap.size + 1 + 1 := ⟨_, rfl⟩
  rw [← hpR] at HAR ⊢
  have HPG := Aside0.mk (show w.heap.size ≤ pR by omega)
  clear hpR
  obtain ⟨R, hR⟩ : ∃ R, R = litS K b := ⟨_, rfl⟩
  have HRL := Aside0.mk (show R.length = 16 by rw [hR]; exact litS_len K b)
  have HE := Aside0.mk hR
  clear hR
  go_wp2_with (first
    | ((with_reducible refine gate_ (.load 56 (.tmp 4)) rfl ?_); (refine loadA rfl 56 (.tmp 4) rfl (w.heap.size + 1) 32 5 rfl K HAK.out (by kernel_rfl) (by rw [HK.out]; exact (zero_of_info infoKey).2) ?_))
    | (go_at_call 66; (refine (litsum_any K HK.out A b.length c b _ HR.out HY.out.1 HY.out.2).mono ?_); rintro e w1 ⟨rfl, hb⟩; rw [← HE.out]; replace HAR := Aside0.mk (AB_kept HAR.out hb); replace HB := Aside0.mk (HB.out.trans (hb.mono HB.out.size)); clear hb)
    | ((with_reducible refine gate_ (.store 77 (.tmp 6) (.tmp 9)) rfl ?_); (refine storeA w.heap.size rfl 77 (.tmp 6) (.tmp 9) rfl pR (zerB 16) R rfl rfl HAR.out (by rw [HRL.out, zerB_len]) (by rw [HRL.out]; exact (zero_of_info infoSum).2) HB.out HPG.out ?_; intro w5 ha hb _ _; clear HB HAR; have HB := Aside0.mk hb; have HAR := Aside0.mk ha; clear ha hb)))
  refine bodyPost_ret (resA rfl _ _ pR 16 5 R rfl HAR.out (by kernel_rfl) (by rw [HRL.out]; exact (zero_of_info infoSum).2)) rfl ?_
  exact ⟨by rw [HE.out], HB.out⟩
end Go.Proofs.Ytghcnipehgjegaa.Wire
end
section
namespace Go.Proofs.Ytghcnipehgjegaa.Wire
open Go.RowKit Go.Proofs.YtghcnipehgjegaaW.PrintWords Go.Proofs.YtghcnipehgjegaaW.PrintLast Go.Proofs.YtghcnipehgjegaaW.PrintMore Go.Proofs.Ytghcnipehgjegaa.Kit Go.Proofs.Ytghcnipehgjegaa.Plain
set_option linter.unusedVariables false
set_option linter.unusedSimpArgs false
def tabQ2 : Bool × List (List Nat × List Nat) := (true, [([], []), ([], []), ([], []), ([], []), ([2, 3], [2, 3]), ([0], [0]), ([5], [5]), ([0, 5, 6], [0]), ([7, 1, 4, 4], [1, 4, 7]), ([8, 8, 0, 1, 2, 3, 4, 5, 6, 7, 8], [8])])
theorem tabQ2_ok : rtab .any (opsOf Try.f31 2) = tabQ2 := by kernel_rfl
def tabQ4 : Bool × List (List Nat × List Nat) := (true, [([], []), ([], []), ([1], [1]), ([0, 2, 2], [0, 2])])
theorem tabQ4_ok : rtab .any (opsOf Try.f20 4) = tabQ4 := by kernel_rfl
def tabQ8 : Bool × List (List Nat × List Nat) := (true, [([], []), ([], []), ([0, 1], [0, 1])])
theorem tabQ8_ok : rtab .any (opsOf Try.f20 8) = tabQ8 := by kernel_rfl
theorem infoKey0 : (Try.prog.info? 56).map (fun i => (i.zero, i.size)) = some (some (.agg (cellsB (zerB 32))), 32) := by kernel_rfl
theorem infoSec : (Try.prog.info? 52).map (fun i => (i.zero, i.size)) = some (some (.agg (cellsB (zerB 128))), 128) := by kernel_rfl
theorem lit_method (L : Array Value) (w : World) : (Go.method (Try.prog.types.size + Made.depth) 59 (.agg L) "Sum").run Try.prog w = .ok (65, .agg L) w := by kernel_rfl
theorem lit_ahead (L : Array Value) (w : World) : (Go.nilAhead (Try.prog.types.size + Made.depth) 59 (.agg L) "Sum").run Try.prog w = .ok (some false) w := by kernel_rfl
/-- A call through an interface in a region that draws its order, by the method's contract. -/
theorem goesM {P : Program} {ops : Array Oper} {Q : Exit → Act → World → Prop} {oi : Oper} {N : Option Tmp} {a : Act} {w : World} {K : Act → World → Prop} {f : FuncId} {fn : Func} {xs : Array Operand} {ts : Array TypeId} (t : Operand) (name : String) (T : TypeId) (r : Value) (hf : P.funcs[f]? = some fn) (hname : (fn.name == "runtime.NumGoroutine") = false) (hb : fn.body.isSome = true) (args : Array Value)
    (hw : Region.wanted oi (yielded ops a.tmps) = true) (hN : oi.dst = N) (hop : oi.op = .call { callee := .invoke t name, args := xs, argTypes := ts }) (hv : a.eval t = .iface T r)
    (hm : ∀ w, (Go.method (P.types.size + Made.depth) T r name).run P w = .ok (f, r) w) (hargs : #[r] ++ xs.map a.eval = args)
    (h : Calls P f args w fun e w' => ∃ v, e = .returned v ∧ K (a.put N v) w') : if Region.wanted oi (yielded ops a.tmps) = true then Oper.wp P oi a w K Q else K (a.put N undef) w := by
  refine call_ f args hw hN ?_ h
  have he := enters_ hf hname hb args w
  have h0 : (#[Value.iface T r] ++ xs.map a.eval)[0]? = some (.iface T r) := by rw [Array.getElem?_append_left (by simp)]; rfl
  have h1 : (xs.map a.eval).extract 0 xs.size = xs.map a.eval := by rw [show xs.size = (xs.map a.eval).size by simp, Array.extract_size]
  unfold execOp
  simp [hop, resolve, hv, invoke, callMethod, hm, h0, h1, hargs, he]
theorem zeroKeyL (w : World) : (zeroValue 56).run Try.prog w = .ok (.agg (cellsB (zerB 32))) w := (zero_of_info infoKey0).1 w
theorem place_any (p : Nat) (hp : p < 4096) (w : World) : Calls Try.prog 29 #[.int .i64 (p : Int)] w fun e w' => e = .returned (.bool true) ∧ w' = w := by
  have d1 : (0 : Int) ≤ (p : Int) := by omega
  have d2 : (p : Int) < 4096 := by omega
  go_enter Try.func29, Try.ntmps29
  go_wp2
  go_ret
  exact ⟨rfl, rfl⟩
set_option maxHeartbeats 1600000 in
set_option maxRecDepth 100000 in
theorem sum_any (L : Array Value) (p : Nat) (hp : p < 4096) (s : List Int) (hs : s.length = 128) (hy : Byt s) (w : World) :
    Calls Try.prog 31 #[.iface 59 (.agg L), .int .i64 (p : Int), .agg (cellsB s)] w fun e w' => e = .returned (.agg (cellsB (sumP p (s.drop 16)))) ∧ Below w.heap.size w w' := by
  have zS := (zero_of_info infoSum).1
  have zK := zeroKeyL
  have hmf : ∀ (fn : Fn) (first cap : Array Value) (w : World), (Instr.makeFunc fn first cap).run Try.prog w = .ok (.func fn first cap) w := fun _ _ _ _ => rfl
  have hna := lit_ahead L
  have HS := Aside0.mk hs
  have HY := Aside0.mk hy
  have HP := Aside0.mk hp
  have e1 : IntKind.u64.wrap (p : Int) = (p : Int) := by rw [IntKind.wrap_u64]; omega
  clear hs hy hp
  go_enter Try.func31, Try.ntmps31
  go_upto_region 1 with (fail)
  obtain ⟨W0, hW0⟩ : ∃ W, W = (w.alloc (.cells (cellsB s) 52)).alloc (.cells (cellsB (zerB 16)) 77) := ⟨_, rfl⟩
  rw [← hW0]
  have HB0 := Aside0.mk (show Below w.heap.size w W0 by rw [hW0]; exact below_alloc (below_alloc (Below.refl _ _) _) _)
  have HA0 := Aside0.mk (show AB W0 w.heap.size 52 s by rw [hW0]; exact AB_kept (AB_new w _ s) (below_alloc (Below.refl _ _) _))
  have HA1 := Aside0.mk (show AB W0 (w.heap.size + 1) 77 (zerB 16) by rw [hW0]; have := AB_new (w.alloc (.cells (cellsB s) 52)) 77 (zerB 16); simpa using this)
  have HB := Aside0.mk (Below.refl W0.heap.size W0)
  clear hW0
  have hr16 := AB_rd HA0.out 16 112 (by rw [HS.out]; decide) (by decide)
  rw [List.take_of_length_le (by rw [List.length_drop, HS.out]; decide)] at hr16
  have HR := Aside0.mk hr16
  have HBY := Aside0.mk (show Byt (zerB 32) ∧ Byt (put (p : Int) 4 ++ s.drop 16) from ⟨fun x hx => by obtain ⟨_, rfl⟩ := List.mem_replicate.1 hx; exact ⟨by decide, by decide⟩, fun x hx => by
    rw [List.mem_append] at hx
    rcases hx with hx | hx
    · exact put_mem hx
    · exact HY.out.drop 16 x hx⟩)
  have HL4 := Aside0.mk (show (put (p : Int) 4).length = 4 ∧ (put (p : Int) 4 ++ s.drop 16).length = 116 by rw [List.length_append, List.length_drop, HS.out, put_len]; exact ⟨rfl, rfl⟩)
  have HX := Aside0.mk (show litS (zerB 32) (put (p : Int) 4 ++ s.drop 16) = sumP (p : Int) (s.drop 16) from rfl)
  clear hr16
  go_upto_region 2 with (first
    | (go_at_call 30; go_must ((refine (put_yes p 4 _ (by decide) (by decide)).mono ?_); rintro e w1 ⟨v, rfl, ho, hb⟩; have xb := HB.out.trans (hb.mono HB.out.size); clear HB; have HB := Aside0.mk xb; have HO := Aside0.mk ho; clear xb ho hb)))
  obtain ⟨A1, c1, rfl⟩ := Kd.R_slice HO.out
  rw [HL4.out.1] at HO ⊢
  refine start_ (n := 10) (S := fun w' => True) (ds := [9]) #[false, false, false, false, false, false, false, false, false, false] (by kernel_rfl) rfl rfl trivial (fun hHeld => ?_); refine with_tab tabQ2_ok (fun HT_ => ?_)
  have hb : Below w1.heap.size w1 w1.drew := below_drew (Below.refl _ _)
  replace HO := Aside0.mk (Kd.R_below HO.out hb)
  replace HB := Aside0.mk (HB.out.trans (hb.mono HB.out.size))
  clear hb
  refine pure_ (i := 0) (N := some 11) (v := ?_) (a' := ?_) #[true, false, false, false, false, false, false, false, false, false] rfl rfl (any_of HT_.out (by kernel_rfl)) (fun _ _ _ h => h) (Or.inl ⟨by rfl, ?_⟩) ?_ ?_
  rotate_left
  · intro w'
    go_simp
    with_reducible rfl
  rotate_left
  · simp only [Act.put, List.setIfInBounds_toArray, List.set_cons_zero, List.set_cons_succ]
    rfl
  refine pure_ (i := 1) (N := some 12) (v := ?_) (a' := ?_) #[true, true, false, false, false, false, false, false, false, false] rfl rfl (any_of HT_.out (by kernel_rfl)) (fun _ _ _ h => h) (Or.inl ⟨by rfl, ?_⟩) ?_ ?_
  rotate_left
  · intro w'
    go_simp
    with_reducible rfl
  rotate_left
  · simp only [Act.put, List.setIfInBounds_toArray, List.set_cons_zero, List.set_cons_succ]
    rfl
  refine pure_ (i := 2) (N := some 13) (v := ?_) (a' := ?_) #[true, true, true, false, false, false, false, false, false, false] rfl rfl (any_of HT_.out (by kernel_rfl)) (fun _ _ _ h => h) (Or.inl ⟨by rfl, ?_⟩) ?_ ?_
  rotate_left
  · intro w'
    go_simp
    with_reducible rfl
  rotate_left
  · simp only [Act.put, List.setIfInBounds_toArray, List.set_cons_zero, List.set_cons_succ]
    rfl
  refine pure_ (i := 3) (N := some 14) (v := ?_) (a' := ?_) #[true, true, true, true, false, false, false, false, false, false] rfl rfl (any_of HT_.out (by kernel_rfl)) (fun _ _ _ h => h) (Or.inl ⟨by rfl, ?_⟩) ?_ ?_
  rotate_left
  · intro w'
    go_simp
    with_reducible rfl
  rotate_left
  · simp only [Act.put, List.setIfInBounds_toArray, List.set_cons_zero, List.set_cons_succ]
    rfl
  refine pure_ (i := 5) (N := some 16) (v := ?_) (a' := ?_) #[true, true, true, true, false, true, false, false, false, false] rfl rfl (any_of HT_.out (by kernel_rfl)) (fun _ _ _ h => h) (Or.inl ⟨by rfl, ?_⟩) ?_ ?_
  rotate_left
  · intro w'
    go_simp
    with_reducible rfl
  rotate_left
  · simp only [Act.put, List.setIfInBounds_toArray, List.set_cons_zero, List.set_cons_succ]
    rfl
  refine pure_ (i := 6) (N := some 17) (v := (.func (.method "Sum") #[.iface 59 (.agg L)] #[])) (a' := ?_) #[true, true, true, true, false, true, true, false, false, false] rfl rfl (any_of HT_.out (by kernel_rfl)) (fun _ _ _ h => h) (Or.inl ⟨by rfl, ?_⟩) ?_ ?_
  · intro w'
    go_simp
    kernel_rfl
  rotate_left
  · simp only [Act.put, List.setIfInBounds_toArray, List.set_cons_zero, List.set_cons_succ]
    rfl
  refine pure_ (i := 7) (N := some 18) (v := ?_) (a' := ?_) #[true, true, true, true, false, true, true, true, false, false] rfl rfl (any_of HT_.out (by kernel_rfl)) (fun _ _ _ h => h) (Or.inl ⟨by rfl, ?_⟩) ?_ ?_
  rotate_left
  · intro w'
    go_simp
    with_reducible rfl
  rotate_left
  · simp only [Act.put, List.setIfInBounds_toArray, List.set_cons_zero, List.set_cons_succ]
    rfl
  refine one_ (i := 4) (N := some 15) #[true, true, true, true, true, true, true, true, false, false] rfl rfl (one_of HT_.out (by kernel_rfl)) (by decide) (fun Kq_ hK_ => ?_)
  refine appB_step W0.heap.size (by rfl) (.tmp 13) (.tmp 14) rfl rfl (.slice A1 4 c1) (put (p : Int) 4) (s.drop 16) (some ⟨w.heap.size, 16, none⟩) 112 112 rfl rfl HO.out (Kd.C_below HR.out HB.out) HB.out HB.out.size (by rw [HL4.out.1]; decide) ?_
  intro v4 w4 ho hb hg hat
  clear HB HO
  have HB := Aside0.mk hb
  obtain ⟨A4, c4, rfl, _, hr4⟩ := Ow_slice ho
  rw [HL4.out.2]
  have HR4 := Aside0.mk (show RdN w4 A4 116 _ by rw [← HL4.out.2]; exact hr4)
  clear ho hb hg hat hr4
  refine hK_.out _ _ trivial (fun hHeld => ?_)
  clear hK_ Kq_
  refine norm_ (a' := ?_) ?_ ?_
  rotate_left
  · show Act.put _ (some 15) _ = _
    simp only [Act.put, List.setIfInBounds_toArray, List.set_cons_zero, List.set_cons_succ]
    rfl
  refine one_ (i := 8) (N := some 19) #[true, true, true, true, true, true, true, true, true, false] rfl rfl (one_of HT_.out (by kernel_rfl)) (by decide) (fun Kq_ hK_ => ?_)
  refine goesM (.tmp 18) "Sum" 59 (.agg L) Try.func65 (by kernel_rfl) rfl #[.agg L, .agg (cellsB (zerB 32)), .slice A4 116 c4] (by rfl) rfl rfl rfl (lit_method L) (by (try simp only [List.map_toArray, List.map_cons, List.map_nil]); first | done | rfl) ?_
  with_reducible refine (lit_sum L (zerB 32) (zerB_len 32) A4 116 c4 (put (p : Int) 4 ++ s.drop 16) _ HR4.out HBY.out.1 HBY.out.2).mono ?_
  rintro e w5 ⟨rfl, hb⟩
  rw [HX.out]
  refine ⟨_, rfl, ?_⟩
  have xb := HB.out.trans (hb.mono HB.out.size)
  clear HB hb
  have HB := Aside0.mk xb
  clear xb
  refine hK_.out _ _ trivial (fun hHeld => ?_)
  clear hK_ Kq_
  refine norm_ (a' := ?_) ?_ ?_
  rotate_left
  · show Act.put _ (some 19) _ = _
    simp only [Act.put, List.setIfInBounds_toArray, List.set_cons_zero, List.set_cons_succ]
    rfl
  refine last_ (i := 9) (N := none) #[true, true, true, true, true, true, true, true, true, true] rfl rfl (one_of HT_.out (by kernel_rfl)) (by decide) (fun Kq_ hK_ => ?_)
  refine storeA_step w.heap.size (by rfl) 77 (.tmp 6) (.tmp 19) rfl rfl (w.heap.size + 1) (zerB 16) (sumP (p : Int) (s.drop 16)) rfl rfl (AB_kept HA1.out HB.out) (by rw [sumP_len]; rfl) (by rw [sumP_len]; exact (zero_of_info infoSum).2) (HB0.out.trans (HB.out.mono HB0.out.size)) (Nat.le_succ _) ?_
  intro w6 ha hb _ _
  clear HB HA1 HA0 HB0
  have HB := Aside0.mk hb
  have HA1 := Aside0.mk ha
  clear ha hb
  refine hK_.out _ _ ?_
  clear hK_ Kq_
  refine done_ (done_of HT_.out (by kernel_rfl)) ?_
  clear HT_ hHeld
  go_wp2
  refine bodyPost_ret (resA rfl _ _ (w.heap.size + 1) 16 5 (sumP (p : Int) (s.drop 16)) rfl HA1.out (by kernel_rfl) (by rw [sumP_len]; exact (zero_of_info infoSum).2)) rfl ?_
  exact ⟨rfl, HB.out⟩
/-- The sector ahead of its sum. -/
def secA (gen : Int) : List Int := splice (zerB 128) 16 (put gen 8)
def secB (gen : Int) (m : Nat) : List Int := (secA gen).set 24 (m : Int)
def secS (gen : Int) (body : List Int) : List Int := splice (secB gen body.length) 25 body
theorem secA_eq (gen : Int) : secA gen = (zerB 16 ++ put gen 8) ++ zerB 104 := by
  simp [secA, splice, zerB, put_len]
theorem secB_eq (gen : Int) (m : Nat) : secB gen m = (zerB 16 ++ put gen 8 ++ [(m : Int)]) ++ zerB 103 := by
  rw [secB, secA_eq, List.set_append_right _ _ (by simp [zerB, put_len])]
  simp [zerB, put_len, List.replicate_succ]
theorem secS_eq (gen : Int) {body : List Int} (h : body.length ≤ 103) : secS gen body = zerB 16 ++ restP gen body := by
  rw [secS, secB_eq]
  have hl : (zerB 16 ++ put gen 8 ++ [(body.length : Int)]).length = 25 := by simp [zerB, put_len]
  unfold splice
  rw [List.take_append_of_le_length (by omega), List.take_of_length_le (by omega), List.drop_append, List.drop_of_length_le (by omega), hl, List.nil_append, show 25 + body.length - 25 = body.length by omega]
  rw [restP, zerB, zerB, List.drop_replicate]
  simp only [List.append_assoc, List.cons_append, List.nil_append]
theorem secS_len (gen : Int) {body : List Int} (h : body.length ≤ 103) : (secS gen body).length = 128 := by rw [secS_eq gen h, List.length_append, zerB_len, restP_len h]
theorem secS_drop (gen : Int) {body : List Int} (h : body.length ≤ 103) : (secS gen body).drop 16 = restP gen body := by
  rw [secS_eq gen h, List.drop_append_of_le_length (by rw [zerB_len]; exact Nat.le_refl _), List.drop_of_length_le (by rw [zerB_len]; exact Nat.le_refl _), List.nil_append]
theorem seal_splice (p gen : Int) {body : List Int} (h : body.length ≤ 103) : splice (secS gen body) 0 (sumP p (restP gen body)) = sealP p gen body := by
  rw [splice, List.take_zero, List.nil_append, sumP_len, Nat.zero_add, secS_drop gen h, sealP]
theorem secA_len (gen : Int) : (secA gen).length = 128 := by rw [secA_eq]; simp [zerB, put_len]
theorem secB_len (gen : Int) (m : Nat) : (secB gen m).length = 128 := by rw [secB, List.length_set, secA_len]
theorem secS_byt (gen : Int) {body : List Int} (h : body.length ≤ 103) (hb : Byt body) : Byt (secS gen body) := by
  rw [secS_eq gen h]
  intro x hx
  rw [List.mem_append] at hx
  rcases hx with hx | hx
  · obtain ⟨_, rfl⟩ := List.mem_replicate.1 hx; exact ⟨by decide, by decide⟩
  · exact restP_byt h hb x hx
abbrev AB_rdT (w : World) (g : Nat) (l : List Int) : Prop := RdN w (some ⟨g, 0, none⟩) 16 l
theorem AB_rd16 {w : World} {g t : Nat} {l : List Int} (h : AB w g t l) (hl : l.length = 16) : AB_rdT w g l := by
  have := AB_rd h 0 16 (by omega) (by decide)
  rwa [List.drop_zero, List.take_of_length_le (by omega)] at this
set_option maxHeartbeats 3200000 in
set_option maxRecDepth 100000 in
theorem pack_any (L : Array Value) (p : Nat) (hp : p < 4096) (gen : Int) (A : Option Addr) (n c : Nat) (body : List Int) (w : World) (hr : RdN w A n body) (hn : n ≤ 103) (hy : Byt body) :
    Calls Try.prog 20 #[.iface 59 (.agg L), .int .i64 (p : Int), .int .u64 gen, .slice A n c] w fun e w' => e = .returned (.tuple #[.agg (cellsB (sealP (p : Int) gen body)), .bool true]) ∧ Below w.heap.size w w' := by
  obtain rfl := C_len hr
  have zS := (zero_of_info infoSec).1
  have HR := Aside0.mk hr
  have HY := Aside0.mk hy
  have HP := Aside0.mk hp
  have HN := Aside0.mk hn
  have d1 : ¬ ((103 : Int) < (body.length : Int)) := by omega
  clear hr hy hp
  go_enter Try.func20, Try.ntmps20
  go_upto_region 2 with (fail)
  obtain ⟨m, hm⟩ : ∃ m, m = body.length := ⟨_, rfl⟩
  rw [← hm] at d1 hn ⊢
  have HMB := Aside0.mk hm
  have e1 : IntKind.u8.wrap (m : Int) = (m : Int) := by rw [IntKind.wrap_u8]; omega
  clear hm hn
  obtain ⟨W0, hW0⟩ : ∃ W, W = (w.alloc (.cells (cellsB (zerB 128)) 52)).alloc (.cells (cellsB (zerB 128)) 52) := ⟨_, rfl⟩
  rw [← hW0]
  have HB := Aside0.mk (show Below w.heap.size w W0 by rw [hW0]; exact below_alloc (below_alloc (Below.refl _ _) _) _)
  have HA0 := Aside0.mk (show AB W0 w.heap.size 52 (zerB 128) by rw [hW0]; exact AB_kept (AB_new w _ (zerB 128)) (below_alloc (Below.refl _ _) _))
  have HA1 := Aside0.mk (show AB W0 (w.heap.size + 1) 52 (zerB 128) by rw [hW0]; have := AB_new (w.alloc (.cells (cellsB (zerB 128)) 52)) 52 (zerB 128); simpa using this)
  clear hW0
  have HPP := HP.out
  go_upto_region 4 with (first
    | (go_at_call 29; go_must ((refine (place_any p HP.out _).mono ?_); rintro e w1 ⟨rfl, rfl⟩)))
  obtain ⟨p1, hp1⟩ : ∃ q, q = w.heap.size + 1 := ⟨_, rfl⟩
  rw [← hp1] at HA1 ⊢
  have HQ := Aside0.mk (show w.heap.size ≤ p1 ∧ w.heap.size ≠ p1 by omega)
  clear hp1 HPP
  have HL8 := Aside0.mk (put_len gen 8)
  refine start_ (n := 4) (S := fun w' => True) (ds := [3]) #[false, false, false, false] (by kernel_rfl) rfl rfl trivial (fun hHeld => ?_); refine with_tab tabQ4_ok (fun HT_ => ?_)
  have hb : Below w1.heap.size w1 w1.drew := below_drew (Below.refl _ _)
  replace HB := Aside0.mk (HB.out.trans (hb.mono HB.out.size))
  clear hb
  refine pure_ (i := 0) (N := some 25) (v := ?_) (a' := ?_) #[true, false, false, false] rfl rfl (any_of HT_.out (by kernel_rfl)) (fun _ _ _ h => h) (Or.inl ⟨by rfl, ?_⟩) ?_ ?_
  rotate_left
  · intro w'
    go_simp
    with_reducible rfl
  rotate_left
  · simp only [Act.put, List.setIfInBounds_toArray, List.set_cons_zero, List.set_cons_succ]
    rfl
  refine pure_ (i := 1) (N := some 26) (v := ?_) (a' := ?_) #[true, true, false, false] rfl rfl (any_of HT_.out (by kernel_rfl)) (fun _ _ _ h => h) (Or.inl ⟨by rfl, ?_⟩) ?_ ?_
  rotate_left
  · intro w'
    go_simp
    with_reducible rfl
  rotate_left
  · simp only [Act.put, List.setIfInBounds_toArray, List.set_cons_zero, List.set_cons_succ]
    rfl
  refine one_ (i := 2) (N := some 27) #[true, true, true, false] rfl rfl (one_of HT_.out (by kernel_rfl)) (by decide) (fun Kq_ hK_ => ?_)
  refine goes_ Try.func30 (by kernel_rfl) rfl #[.int .u64 gen, .int .i64 8] (by rfl) rfl rfl (by (try simp only [List.map_toArray, List.map_cons, List.map_nil]); first | done | rfl) ?_
  refine (put_yes gen 8 _ (by decide) (by decide)).mono ?_
  rintro e w2 ⟨v, rfl, ho, hb⟩
  refine ⟨_, rfl, ?_⟩
  have x0 := AB_kept (show AB w1.drew _ _ _ from HA0.out) hb
  have x1 := AB_kept (show AB w1.drew _ _ _ from HA1.out) hb
  have xb := HB.out.trans (hb.mono HB.out.size)
  obtain ⟨A2, c2, rfl, _, hr2⟩ := Ow_slice ho
  rw [HL8.out]
  have HR2 := Aside0.mk (show RdN w2 A2 8 _ by rw [← HL8.out]; exact hr2)
  clear HA0 HA1 HB hb ho hr2
  have HA0 := Aside0.mk x0
  have HA1 := Aside0.mk x1
  have HB := Aside0.mk xb
  clear x0 x1 xb
  refine hK_.out _ _ trivial (fun hHeld => ?_)
  clear hK_ Kq_
  refine norm_ (a' := ?_) ?_ ?_
  rotate_left
  · show Act.put _ (some 27) _ = _
    simp only [Act.put, List.setIfInBounds_toArray, List.set_cons_zero, List.set_cons_succ]
    rfl
  refine last_ (i := 3) (N := some 28) #[true, true, true, true] rfl rfl (one_of HT_.out (by kernel_rfl)) (by decide) (fun Kq_ hK_ => ?_)
  refine copyA_step w.heap.size (by rfl) (.tmp 25) (.tmp 27) 28 28 rfl 5 Try.underlying28 (by kernel_rfl) p1 16 112 112 A2 8 c2 rfl rfl (zerB 128) (put gen 8) HA1.out HR2.out (by decide) (by rw [zerB_len]; decide) HB.out HQ.out.1 ?_
  intro w3 ha hb hoth hsz
  clear hsz
  have x0 := (hoth _ HQ.out.2).trans HA0.out
  clear HA0 HA1 HB hoth
  have HA0 := Aside0.mk x0
  have HA1 := Aside0.mk (show AB w3 p1 52 (secA gen) from ha)
  have HB := Aside0.mk hb
  clear x0 ha hb
  refine hK_.out _ _ ?_
  clear hK_ Kq_
  refine norm_ (a' := ?_) ?_ ?_
  rotate_left
  · show Act.put _ (some 28) _ = _
    simp only [Act.put, List.setIfInBounds_toArray, List.set_cons_zero, List.set_cons_succ]
    rfl
  refine done_ (done_of HT_.out (by kernel_rfl)) ?_
  clear HT_ hHeld
  have c24 := AB_cell HA1.out 24 (by rw [secA_len]; decide)
  have z24 := AB_frozen HA1.out 24
  have HM103 := Aside0.mk (show m ≤ 103 by rw [HMB.out]; exact HN.out)
  have hx1 := AB_set HA1.out 24 (m : Int)
  have HX1 := Aside0.mk hx1
  have HX0 := Aside0.mk (show AB (w3.setCell ⟨p1, 24, none⟩ (.int .u8 (m : Int))) w.heap.size 52 (zerB 128) from blk_far HA0.out HQ.out.2 _)
  have HXB := Aside0.mk (below_set HB.out HQ.out.1 (j := 24) (v := .int .u8 (m : Int)))
  clear hx1
  go_upto_region 6 with (fail)
  obtain ⟨W4, hW4⟩ : ∃ W, W = w3.setCell ⟨p1, 24, none⟩ (.int .u8 (m : Int)) := ⟨_, rfl⟩
  rw [← hW4] at HX1 HX0 HXB ⊢
  clear c24 z24 HA0 HA1 HB hW4
  replace HX1 : Aside0 (AB W4 p1 52 (secB gen m)) := HX1
  go_upto_region 8 with (first
    | ((with_reducible refine gate_dst (N := 35) rfl ?_); go_must (refine copyA w.heap.size rfl (.tmp 33) (.tmp 34) 28 28 rfl 5 Try.underlying28 (by kernel_rfl) p1 25 103 103 A m c rfl rfl (secB gen m) body HX1.out (by rw [HMB.out]; exact Kd.C_below HR.out HXB.out) HM103.out (by rw [secB_len]; have := HM103.out; omega) HXB.out HQ.out.1 ?_; intro w5 ha hb hoth hsz; clear hsz; have x0 := (hoth _ HQ.out.2).trans HX0.out; clear HX0 HX1 HXB hoth; have HA0 := Aside0.mk x0; have HA1 := Aside0.mk (show AB w5 p1 52 (secS gen body) by rw [secS, ← HMB.out]; exact ha); have HB := Aside0.mk hb; clear x0 ha hb))
    | ((with_reducible refine gate_ (.load 52 (.tmp 10)) rfl ?_); (refine loadA rfl 52 (.tmp 10) rfl p1 128 5 rfl (secS gen body) HA1.out (by kernel_rfl) (by rw [secS_len gen HN.out]; exact (zero_of_info infoSec).2) ?_))
    | (go_at_call 31; go_must ((refine (sum_any L p HP.out (secS gen body) (secS_len gen HN.out) (secS_byt gen HN.out HY.out) _).mono ?_); rintro e w6 ⟨rfl, hb⟩; rw [secS_drop gen HN.out]; have x0 := AB_kept HA0.out hb; have x1 := AB_kept HA1.out hb; have xb := HB.out.trans (hb.mono HB.out.size); clear HA0 HA1 HB hb; have HA0 := Aside0.mk x0; have HA1 := Aside0.mk x1; have HB := Aside0.mk xb; clear x0 x1 xb))
    | ((with_reducible refine gate_ (.store 77 (.tmp 11) (.tmp 39)) rfl ?_); go_must (refine storeA w.heap.size rfl 77 (.tmp 11) (.tmp 39) rfl w6.heap.size (zerB 16) (sumP (p : Int) (restP gen body)) rfl rfl (blk_new w6 _) (by rw [sumP_len]; rfl) (by rw [sumP_len]; exact (zero_of_info infoSum).2) (below_alloc HB.out _) HB.out.size ?_; intro w7 ha hb hoth hsz; clear hsz; have hq : ∀ {j : Nat} {o : Obj}, w6.heap[j]? = some o → w7.heap[j]? = some o := (fun ho => (hoth _ (by have := blk_lt ho; omega)).trans (blk_alloc ho _)); have x0 := hq HA0.out; have x1 := hq HA1.out; have HL1 := Aside0.mk (blk_lt HA1.out); clear HA0 HA1 HB hoth hq; have HA0 := Aside0.mk x0; have HA1 := Aside0.mk x1; have HA2 := Aside0.mk ha; have HB := Aside0.mk hb; clear x0 x1 ha hb)))
  have HS2 := Aside0.mk (show AB_rdT w7 w6.heap.size (sumP (p : Int) (restP gen body)) from AB_rd16 HA2.out (sumP_len _ _))
  obtain ⟨p2, hp2⟩ : ∃ q, q = w6.heap.size := ⟨_, rfl⟩
  rw [← hp2] at HS2 ⊢
  clear hp2
  refine start_ (n := 3) (S := fun w' => True) (ds := [2]) #[false, false, false] (by kernel_rfl) rfl rfl trivial (fun hHeld => ?_); refine with_tab tabQ8_ok (fun HT_ => ?_)
  have hb : Below w7.heap.size w7 w7.drew := below_drew (Below.refl _ _)
  replace HB := Aside0.mk (HB.out.trans (hb.mono HB.out.size))
  clear hb
  refine pure_ (i := 0) (N := some 40) (v := ?_) (a' := ?_) #[true, false, false] rfl rfl (any_of HT_.out (by kernel_rfl)) (fun _ _ _ h => h) (Or.inl ⟨by rfl, ?_⟩) ?_ ?_
  rotate_left
  · intro w'
    go_simp
    with_reducible rfl
  rotate_left
  · simp only [Act.put, List.setIfInBounds_toArray, List.set_cons_zero, List.set_cons_succ]
    rfl
  refine pure_ (i := 1) (N := some 41) (v := ?_) (a' := ?_) #[true, true, false] rfl rfl (any_of HT_.out (by kernel_rfl)) (fun _ _ _ h => h) (Or.inl ⟨by rfl, ?_⟩) ?_ ?_
  rotate_left
  · intro w'
    go_simp
    with_reducible rfl
  rotate_left
  · simp only [Act.put, List.setIfInBounds_toArray, List.set_cons_zero, List.set_cons_succ]
    rfl
  refine last_ (i := 2) (N := some 42) #[true, true, true] rfl rfl (one_of HT_.out (by kernel_rfl)) (by decide) (fun Kq_ hK_ => ?_)
  refine copyA_step w.heap.size (by rfl) (.tmp 40) (.tmp 41) 28 28 rfl 5 Try.underlying28 (by kernel_rfl) p1 0 128 128 (some ⟨p2, 0, none⟩) 16 16 rfl rfl (secS gen body) (sumP (p : Int) (restP gen body)) (show AB w7.drew _ _ _ from HA1.out) (RdN_block HS2.out (by rfl)) (by decide) (by rw [secS_len gen HN.out]; decide) HB.out HQ.out.1 ?_
  intro w8 ha hb hoth hsz
  clear hsz
  rw [seal_splice (p : Int) gen HN.out] at ha
  have x0 := (hoth _ HQ.out.2).trans (show AB w7.drew _ _ _ from HA0.out)
  clear HA0 HA1 HA2 HB hoth HS2
  have HA0 := Aside0.mk x0
  have HA1 := Aside0.mk ha
  have HB := Aside0.mk hb
  clear x0 ha hb
  refine hK_.out _ _ ?_
  clear hK_ Kq_
  refine norm_ (a' := ?_) ?_ ?_
  rotate_left
  · show Act.put _ (some 42) _ = _
    simp only [Act.put, List.setIfInBounds_toArray, List.set_cons_zero, List.set_cons_succ]
    rfl
  refine done_ (done_of HT_.out (by kernel_rfl)) ?_
  clear HT_ hHeld
  have HSL := Aside0.mk (sealP_len (p := (p : Int)) (gen := gen) HN.out)
  go_wp2_with (first
    | ((with_reducible refine gate_ (.load 52 (.tmp 10)) rfl ?_); (refine loadA rfl 52 (.tmp 10) rfl p1 128 5 rfl (sealP (p : Int) gen body) HA1.out (by kernel_rfl) (by rw [HSL.out]; exact (zero_of_info infoSec).2) ?_))
    | ((with_reducible refine gate_ (.store 52 (.tmp 8) (.tmp 43)) rfl ?_); go_must (refine storeA w.heap.size rfl 52 (.tmp 8) (.tmp 43) rfl w.heap.size (zerB 128) (sealP (p : Int) gen body) rfl rfl HA0.out (by rw [HSL.out]; rfl) (by rw [HSL.out]; exact (zero_of_info infoSec).2) HB.out (Nat.le_refl _) ?_; intro w9 ha hb _ _; clear HB HA0; have HB := Aside0.mk hb; have HA0 := Aside0.mk ha; clear ha hb)))
  refine bodyPost_ret (resAB rfl _ _ w.heap.size 128 5 (sealP (p : Int) gen body) rfl HA0.out (by kernel_rfl) (by rw [HSL.out]; exact (zero_of_info infoSec).2)) rfl ?_
  exact ⟨rfl, HB.out⟩
end Go.Proofs.Ytghcnipehgjegaa.Wire
end
section
namespace Go.Proofs.Ytghcnipehgjegaa.Wire
open Go.RowKit Go.Proofs.YtghcnipehgjegaaW.PrintWords Go.Proofs.YtghcnipehgjegaaW.PrintLast Go.Proofs.YtghcnipehgjegaaW.PrintMore Go.Proofs.Ytghcnipehgjegaa.Kit Go.Proofs.Ytghcnipehgjegaa.Plain
set_option linter.unusedVariables false
set_option linter.unusedSimpArgs false
set_option maxRecDepth 100000 in
/-- slices.Clone: nil of nil, else a row of one's own. -/
theorem sclone_any (A : Option Addr) (n c : Nat) (l : List Int) (w : World) (hr : RdN w A n l) (hl : n ≤ 1000000000) :
    Calls Try.prog 33 #[.slice A n c] w fun e w' => (∃ v, e = .returned v ∧ OwB w' w.heap.size v l) ∧ Below w.heap.size w w' := by
  have hA : A = none → l = [] := fun h => by
    subst h
    cases hn : n with
    | zero => exact List.eq_nil_of_length_eq_zero (by rw [C_len hr, hn])
    | succ m => obtain ⟨ad, he, _⟩ := C_at hr 0 (by omega); cases he
  obtain rfl := C_len hr
  have HR := Aside0.mk hr
  clear hr
  have HB := Aside0.mk (Below.refl w.heap.size w)
  have hnl : ∀ W : World, (binOp .eql 28 (.slice A l.length c) (.slice none 0 0)).run Try.prog W = .ok (.bool A.isNone) W := fun _ => by cases A <;> rfl
  cases A with
  | none =>
    have HN := Aside0.mk (hA rfl)
    clear hA
    go_enter Try.func33, Try.ntmps33
    go_wp2
    go_ret
    exact ⟨⟨_, rfl, by rw [HN.out]; exact Kd.R_nil _ _ _ _ _⟩, HB.out⟩
  | some ad =>
    clear hA
    go_enter Try.func33, Try.ntmps33
    go_wp2_with (first
      | ((with_reducible refine gate_dst (N := 5) rfl ?_); (try (refine gate_guard (by rfl) ?_; dsimp only)); refine litB w.heap.size rfl (N := 5) rfl [] ?hr HB.out HB.out.size (by simp) ?_; (case hr => first | (go_simp; done) | (go_simp; rfl)); intro v1 w1 ho hb0 hn hb; clear HB; have HB := Aside0.mk hb0; have HO1 := Aside0.mk ho; obtain ⟨A1, c1, rfl, hcap1, hr1⟩ := Ow_slice ho; have HR1 := Aside0.mk hr1; clear hr1 ho hb hb0 hn)
      | ((with_reducible refine gate_dst (N := 7) rfl ?_); (try (refine gate_guard (by rfl) ?_; dsimp only)); refine appB w.heap.size rfl (.tmp 5) (.tmp 6) rfl rfl _ [] l (some ad) l.length c rfl rfl HO1.out (Kd.C_below HR.out HB.out) HB.out HB.out.size (by simp; omega) ?_; intro v2 w2 ho hb hg hat; clear HB; have HB := Aside0.mk hb; have HO2 := Aside0.mk ho; clear ho hb hg hat))
    go_ret
    exact ⟨⟨_, rfl, HO2.out⟩, HB.out⟩
theorem getyes8 (A : Option Addr) (c : Nat) (l : List Int) (w : World) (hr : RdN w A 8 l) (hy : Byt l) :
    Calls Try.prog 32 #[.slice A 8 c] w fun e w' => e = .returned (.tuple #[.int .u64 (val l), .bool true]) ∧ w = w' := get_yes A 8 c l w hr hy (by decide) (by decide)
theorem neq_sec (a b : List Int) (ha : a.length = 128) (hb : b.length = 128) (w : World) :
    (binOp .neq 52 (.agg (cellsB a)) (.agg (cellsB b))).run Try.prog w = .ok (.bool (!decide (a = b))) w := by
  obtain ⟨i0, hi, _⟩ := Option.map_eq_some_iff.1 infoU8
  have h := eq_bytes (P := Try.prog) 9998 (t := 52) (e := 5) (n := 128) (i := i0) (by kernel_rfl) hi (by kernel_rfl) (by kernel_rfl) a b ha hb w
  simp only [binOp, Op.equal, show Op.maxDepth = 9998 + 1 + 1 from rfl, Sem.run_bind, h, Result.andThen_ok]
  rfl
/-- What stands in a sector. -/
def genU (s : List Int) : Int := val ((s.take 24).drop 16)
def bodyU (s : List Int) (m : Nat) : List Int := (s.take (25 + m)).drop 25
theorem unseal_no {p : Int} {s : List Int} (h : 103 < nth s 24) : unsealP p s = none := by rw [unsealP, if_pos h]
theorem unseal_if {p : Int} {s : List Int} {m : Nat} (hm : nth s 24 = (m : Int)) (h : m ≤ 103) : unsealP p s = if sealP p (genU s) (bodyU s m) = s then some (genU s, bodyU s m) else none := by
  rw [unsealP, if_neg (by omega), hm]
  rfl
/-- What is told of a sector. -/
def Told (r : Option (Int × List Int)) (w : World) (base : Nat) (g : Int) (v : Value) (ok : Bool) : Prop :=
  match r with
  | none => g = 0 ∧ v = .slice none 0 0 ∧ ok = false
  | some r => g = r.1 ∧ ok = true ∧ OwB w base v r.2
set_option maxHeartbeats 3200000 in
set_option maxRecDepth 100000 in
theorem unpack_any (L : Array Value) (p : Nat) (hp : p < 4096) (s : List Int) (hs : s.length = 128) (hy : Byt s) (w : World) :
    Calls Try.prog 21 #[.iface 59 (.agg L), .int .i64 (p : Int), .agg (cellsB s)] w fun e w' =>
      ∃ g v ok, e = .returned (.tuple #[.int .u64 g, v, .bool ok]) ∧ Below w.heap.size w w' ∧ Told (unsealP (p : Int) s) w' w.heap.size g v ok := by
  have HS := Aside0.mk hs
  have HY := Aside0.mk hy
  have HP := Aside0.mk hp
  have zS := (zero_of_info infoSec).1
  obtain ⟨m, hm⟩ := Int.eq_ofNat_of_zero_le (hy.nth (i := 24) (by omega)).1
  have hm256 := (hy.nth (i := 24) (by omega)).2
  have c24' := AB_new w 52 s
  have e1 : IntKind.i64.wrap (m : Int) = (m : Int) := by rw [IntKind.wrap_i64]; omega
  by_cases hbig : 103 < m
  · have d1 : (103 : Int) < (m : Int) := by omega
    have HNO := Aside0.mk (unseal_no (p := (p : Int)) (s := s) (by omega))
    have c24 := AB_cell c24' 24 (by omega)
    rw [hm] at c24
    clear hm c24' hm256 hbig hs hy hp
    go_enter Try.func21, Try.ntmps21
    go_wp2
    refine bodyPost_ret (v := .tuple #[.int .u64 0, .slice none 0 0, .bool false]) (by simp [results, Try.results21, go_sem]) rfl ?_
    exact ⟨_, _, _, rfl, below_alloc (Below.refl _ _) _, by rw [HNO.out]; exact ⟨rfl, rfl, rfl⟩⟩
  · have d1 : ¬ ((103 : Int) < (m : Int)) := by omega
    have HU := Aside0.mk (unseal_if (p := (p : Int)) hm (by omega))
    have c24 := AB_cell c24' 24 (by omega)
    rw [hm] at c24
    have hgl : ((s.take 24).drop 16).length = 8 := by rw [List.length_drop, List.length_take]; omega
    have hbl : (bodyU s m).length = m := by rw [bodyU, List.length_drop, List.length_take]; omega
    have e2 : IntKind.i64.wrap (25 + (m : Int)) = ((25 + m : Nat) : Int) := by rw [IntKind.wrap_i64]; omega
    obtain ⟨m25, hm25⟩ : ∃ k, k = 25 + m := ⟨_, rfl⟩
    rw [← hm25] at e2
    have HM := Aside0.mk (show m ≤ 103 ∧ m25 = 25 + m by omega)
    have hr1 := AB_rd c24' 16 8 (by omega) (by decide)
    have hr2 := AB_rd c24' 25 m (by omega) (by omega)
    rw [show (s.drop 16).take 8 = (s.take 24).drop 16 by rw [List.drop_take]] at hr1
    rw [show (s.drop 25).take m = bodyU s m by rw [bodyU, List.drop_take, show 25 + m - 25 = m by omega]] at hr2
    have f1 : m25 ≤ 128 := by omega
    have f2 : 25 ≤ m25 := by omega
    have f3 : (m25 : Int) ≤ 128 := by omega
    have f4 : (25 : Int) ≤ (m25 : Int) := by omega
    have f5 : m25 - 25 = m := by omega
    have HR1 := Aside0.mk hr1
    have HR2 := Aside0.mk hr2
    have HA0 := Aside0.mk c24'
    have HB := Aside0.mk (below_alloc (Below.refl w.heap.size w) (.cells (cellsB s) 52))
    have HBL := Aside0.mk hbl
    have HBY := Aside0.mk (show Byt (bodyU s m) from (hy.take _).drop _)
    have HGY := Aside0.mk (show Byt ((s.take 24).drop 16) from (hy.take _).drop _)
    clear hm c24' hm256 hbig hs hy hp hgl hbl hm25 hr1 hr2
    go_enter Try.func21, Try.ntmps21
    go_upto_region 4 with (fail)
    obtain ⟨W0, hW0⟩ : ∃ W, W = w.alloc (.cells (cellsB s) 52) := ⟨_, rfl⟩
    rw [← hW0] at HR1 HR2 HA0 HB ⊢
    clear hW0 c24
    obtain ⟨g, hg⟩ : ∃ g, g = genU s := ⟨_, rfl⟩
    have HG := Aside0.mk (show val ((s.take 24).drop 16) = g from hg.symm)
    obtain ⟨b, hb⟩ : ∃ b, b = bodyU s m := ⟨_, rfl⟩
    rw [← hb] at HR2 HBL HBY
    have HGB := Aside0.mk (And.intro hg hb)
    clear hg hb
    have HSL := Aside0.mk (sealP_len (p := (p : Int)) (gen := g) (body := b) (by rw [HBL.out]; exact HM.out.1))
    have HBW := Aside0.mk (Below.refl W0.heap.size W0)
    go_upto_region 7 with (first
      | (go_at_call 32; go_must ((refine (getyes8 _ _ _ _ HR1.out HGY.out).mono ?_); rintro e w1 ⟨rfl, rfl⟩; rw [HG.out]))
      | (go_at_call 33; go_must ((refine (sclone_any _ m _ b _ HR2.out (by have := HM.out; omega)).mono ?_); rintro e w2 ⟨⟨v, rfl, ho⟩, hb⟩; obtain ⟨A2, c2, rfl, _, hr2⟩ := Ow_slice ho; rw [HBL.out] at ho ⊢; have HR2' := Aside0.mk (show RdN w2 A2 m b by rw [← HBL.out]; exact hr2); have HO := Aside0.mk ho; clear HBW; have HBW := Aside0.mk hb; clear ho hb hr2))
      | (go_at_call 20; go_must ((refine (pack_any L p HP.out g A2 m c2 b _ HR2'.out HM.out.1 HBY.out).mono ?_); rintro e w3 ⟨rfl, hb⟩; have xo := Kd.R_below HO.out hb; have xb := HBW.out.trans (hb.mono HBW.out.size); clear HO HBW hb; have HO := Aside0.mk xo; have HBW := Aside0.mk xb; clear xo xb))
      | ((with_reducible refine gate_ (.store 52 (.tmp 10) (.tmp 36)) rfl ?_); go_must (refine storeA W0.heap.size rfl 52 (.tmp 10) (.tmp 36) rfl w3.heap.size (zerB 128) (sealP (p : Int) g b) rfl rfl (blk_new w3 _) (by rw [HSL.out]; rfl) (by rw [HSL.out]; exact (zero_of_info infoSec).2) (below_alloc HBW.out _) HBW.out.size ?_; intro w4 ha hb hoth hsz; clear hsz; have xo := Kd.R_mono (Kd.R_move (Kd.R_bound HO.out) (fun k hk => (hoth k (by have := hk.2.2.1; omega)).trans (heap_alloc_old w3 _ hk.2.2.1))) (ok' := fun _ => True) (fun k hk => hk.1); have x0 := (hoth _ (by have := blk_lt (AB_kept HA0.out HBW.out); omega)).trans (blk_alloc (AB_kept HA0.out HBW.out) _); clear hoth HO HBW; have HO := Aside0.mk xo; have HA0' := Aside0.mk x0; have HA1 := Aside0.mk ha; have HBW := Aside0.mk hb; clear ha hb xo x0)))
    have hneq := neq_sec (sealP (p : Int) g b) s HSL.out HS.out
    obtain ⟨p1, hp1⟩ : ∃ q, q = w3.heap.size := ⟨_, rfl⟩
    rw [← hp1] at HA1 ⊢
    clear hp1
    by_cases he : sealP (p : Int) g b = s
    · have HE := Aside0.mk he
      rw [decide_eq_true he] at hneq
      clear he
      go_wp2_with (first
        | ((with_reducible refine gate_dst (N := 41) rfl ?_); (try (refine gate_guard (by rfl) ?_; dsimp only)); go_must (refine loadA rfl 52 (.tmp 10) rfl p1 128 5 rfl (sealP (p : Int) g b) HA1.out (by kernel_rfl) (by rw [HSL.out]; exact (zero_of_info infoSec).2) ?_))
        | ((with_reducible refine gate_dst (N := 42) rfl ?_); (try (refine gate_guard (by rfl) ?_; dsimp only)); go_must (refine loadA rfl 52 (.tmp 5) rfl w.heap.size 128 5 rfl s HA0'.out (by kernel_rfl) (by rw [HS.out]; exact (zero_of_info infoSec).2) ?_)))
      refine bodyPost_ret (v := .tuple #[.int .u64 g, .slice A2 m c2, .bool true]) (by simp [results, Try.results21, go_sem]) rfl ?_
      exact ⟨g, _, _, rfl, HB.out.trans (HBW.out.mono HB.out.size), by rw [HU.out, ← HGB.out.1, ← HGB.out.2, if_pos HE.out]; exact ⟨rfl, rfl, Kd.R_lower HO.out HB.out.size⟩⟩
    · have HE := Aside0.mk he
      rw [decide_eq_false he] at hneq
      clear he
      go_wp2_with (first
        | ((with_reducible refine gate_dst (N := 41) rfl ?_); (try (refine gate_guard (by rfl) ?_; dsimp only)); go_must (refine loadA rfl 52 (.tmp 10) rfl p1 128 5 rfl (sealP (p : Int) g b) HA1.out (by kernel_rfl) (by rw [HSL.out]; exact (zero_of_info infoSec).2) ?_))
        | ((with_reducible refine gate_dst (N := 42) rfl ?_); (try (refine gate_guard (by rfl) ?_; dsimp only)); go_must (refine loadA rfl 52 (.tmp 5) rfl w.heap.size 128 5 rfl s HA0'.out (by kernel_rfl) (by rw [HS.out]; exact (zero_of_info infoSec).2) ?_)))
      refine bodyPost_ret (v := .tuple #[.int .u64 0, .slice none 0 0, .bool false]) (by simp [results, Try.results21, go_sem]) rfl ?_
      exact ⟨_, _, _, rfl, HB.out.trans (HBW.out.mono HB.out.size), by rw [HU.out, ← HGB.out.1, ← HGB.out.2, if_neg HE.out]; exact ⟨rfl, rfl, rfl⟩⟩
end Go.Proofs.Ytghcnipehgjegaa.Wire
end
