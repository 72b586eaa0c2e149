/- Plain facts: a cell's bytes, and the cell of bytes. No program. -/
import Derived.Test.YtghcnipehgjegaaCellPlain
namespace Go.Proofs.Ytghcnipehgjegaa.Plain
open Go
set_option linter.unusedVariables false
set_option linter.unusedSimpArgs false
/-- A cell's bytes. -/
def encS (x : Cel) : List Int :=
  put x.kind 1 ++ (put x.num 2 ++ (put x.min 4 ++ ((if hasPlace x.kind then put x.br 1 ++ (put x.vol 1 ++ put x.blk 2) else []) ++ ((if hasRef x.kind then put x.ref 2 else []) ++
    ((if hasMin x.kind then put x.fr 4 ++ (put x.to 4 ++ put x.un 4) else []) ++ (if hasBody x.kind then put x.body.length 1 ++ x.body else []))))))
/-- A number within bytes; 0 if it isn't there. -/
def gv (b : List Int) (m n : Nat) : Int := if m + n ≤ b.length then val ((b.drop m).take n) else 0
def offR (k : Int) : Nat := 7 + (if hasPlace k then 4 else 0)
def offM (k : Int) : Nat := offR k + (if hasRef k then 2 else 0)
def offB (k : Int) : Nat := offM k + (if hasMin k then 12 else 0)
def needS (k : Int) : Nat := offB k + (if hasBody k then 1 else 0)
def cellOf (b : List Int) : Cel :=
  ⟨gv b 0 1, gv b 1 2, gv b 3 4, if hasPlace (gv b 0 1) then gv b 7 1 else 0, if hasPlace (gv b 0 1) then gv b 8 1 else 0, if hasPlace (gv b 0 1) then gv b 9 2 else 0,
   if hasRef (gv b 0 1) then gv b (offR (gv b 0 1)) 2 else 0, if hasMin (gv b 0 1) then gv b (offM (gv b 0 1)) 4 else 0, if hasMin (gv b 0 1) then gv b (offM (gv b 0 1) + 4) 4 else 0, if hasMin (gv b 0 1) then gv b (offM (gv b 0 1) + 8) 4 else 0,
   if hasBody (gv b 0 1) then (b.drop (needS (gv b 0 1))).take (gv b (offB (gv b 0 1)) 1).toNat else []⟩
def totalS (b : List Int) : Nat := needS (gv b 0 1) + (if hasBody (gv b 0 1) then (gv b (offB (gv b 0 1)) 1).toNat else 0)
/-- The cell with which bytes begin, those behind it, an error's number. -/
def decS (b : List Int) : Cel × List Int × Int :=
  if b.length = 0 then (cel0, [], 14)
  else if hasKind (gv b 0 1) = false then (cel0, [], 3)
  else if b.length < totalS b then (cel0, [], 14)
  else if rightB (cellOf b) then (cellOf b, b.drop (totalS b), 0) else (cel0, [], 3)
theorem gv_range {b : List Int} (hb : Byt b) (m n : Nat) : 0 ≤ gv b m n ∧ gv b m n < 2 ^ (8 * n) := by
  unfold gv
  split
  · have h := val_bound ((hb.drop m).take n)
    rw [List.length_take, List.length_drop] at h
    refine ⟨h.1, Int.lt_of_lt_of_le h.2 ?_⟩
    exact pow_mono (by omega)
  · exact ⟨Int.le_refl _, Int.pow_pos (by omega)⟩
theorem gv_here (v : Int) (n : Nat) (q : List Int) (h0 : 0 ≤ v) (h1 : v < 2 ^ (8 * n)) : gv (put v n ++ q) 0 n = v := by
  have hl := put_len v n
  rw [gv, if_pos (by rw [List.length_append, hl]; omega), List.drop_zero, List.take_append_of_le_length (by omega), List.take_of_length_le (by omega), val_put, Int.emod_eq_of_lt h0 h1]
theorem gv_skip (p q : List Int) (m n : Nat) (h : p.length ≤ m) : gv (p ++ q) m n = gv q (m - p.length) n := by
  unfold gv
  rw [List.length_append]
  by_cases hc : m + n ≤ p.length + q.length
  · rw [if_pos hc, if_pos (by omega), List.drop_append, List.drop_of_length_le h, List.nil_append]
  · rw [if_neg hc, if_neg (by omega)]
theorem gv_put (v : Int) (k : Nat) (q : List Int) (m n : Nat) (h : k ≤ m) : gv (put v k ++ q) m n = gv q (m - k) n := by
  rw [gv_skip _ _ _ _ (by rw [put_len]; exact h), put_len]
theorem gv_take (b : List Int) (k m n : Nat) (h : m + n ≤ k) (hk : k ≤ b.length) : gv (b.take k) m n = gv b m n := by
  unfold gv
  rw [List.length_take, if_pos (by omega), if_pos (by omega), List.drop_take, List.take_take, show min n (k - m) = n by omega]
theorem gv_full {b : List Int} {m n : Nat} (hb : Byt b) (h : m + n ≤ b.length) : put (gv b m n) n = (b.drop m).take n := by
  rw [gv, if_pos h]
  have := put_val ((hb.drop m).take n)
  rwa [List.length_take, List.length_drop, show min n (b.length - m) = n by omega] at this
theorem gv_one {b : List Int} {m : Nat} (h : m < b.length) : gv b m 1 = nth b m := by
  rw [gv, if_pos (by omega), List.drop_eq_getElem_cons h, nth_eq h]
  simp [val, List.take]
theorem gv_here1 (v : Int) (q : List Int) (h0 : 0 ≤ v) (h1 : v < 256) : gv (put v 1 ++ q) 0 1 = v := gv_here v 1 q h0 (by simpa using h1)
theorem gv_here2 (v : Int) (q : List Int) (h0 : 0 ≤ v) (h1 : v < 65536) : gv (put v 2 ++ q) 0 2 = v := gv_here v 2 q h0 (by simpa using h1)
theorem gv_here4 (v : Int) (q : List Int) (h0 : 0 ≤ v) (h1 : v < 4294967296) : gv (put v 4 ++ q) 0 4 = v := gv_here v 4 q h0 (by simpa using h1)
theorem drop_put (v : Int) (k : Nat) (q : List Int) (m : Nat) (h : k ≤ m) : (put v k ++ q).drop m = q.drop (m - k) := by
  rw [List.drop_append, List.drop_of_length_le (by rw [put_len]; exact h), List.nil_append, put_len]
theorem encS_len (x : Cel) (hw : CelWf x) (h : rightB x = true) : (encS x).length = needS x.kind + x.body.length ∧ (encS x).length ≤ 46 ∧ 7 ≤ (encS x).length := by
  obtain ⟨_, h⟩ := (right_iff x hw).1 h
  rcases h with ⟨hk, h⟩ | ⟨hk, h⟩ | ⟨hk, h⟩ | ⟨hk, h⟩ | ⟨hk, h⟩ | ⟨hk, h⟩ | ⟨hk, h⟩ | ⟨hk, h⟩ <;>
    simp [encS, hk, hasPlace, hasRef, hasMin, hasBody, needS, offB, offM, offR, put_len, h] <;> omega
theorem Byt.append {a b : List Int} (ha : Byt a) (hb : Byt b) : Byt (a ++ b) := fun x hx => by
  rcases List.mem_append.1 hx with h | h
  · exact ha x h
  · exact hb x h
theorem Byt.nil : Byt [] := fun x hx => by cases hx
theorem Byt.encS {x : Cel} (h : Byt x.body) : Byt (encS x) := by
  unfold Plain.encS
  repeat' first
    | exact Byt.put _ _
    | exact h
    | exact Byt.nil
    | apply Byt.append
    | split
/-- There and back. -/
theorem dec_enc (x : Cel) (hw : CelWf x) (h : rightB x = true) (more : List Int) : gv (encS x ++ more) 0 1 = x.kind ∧ totalS (encS x ++ more) = (encS x).length ∧ cellOf (encS x ++ more) = x := by
  obtain ⟨h1, h2⟩ := (right_iff x hw).1 h
  have hl := (encS_len x hw h).1
  obtain ⟨kind, num, min, br, vol, blk, ref, fr, to, un, body⟩ := x
  simp only at h1 h2 hl ⊢
  clear h hw
  rcases h2 with ⟨rfl, h⟩ | ⟨rfl, h⟩ | ⟨rfl, h⟩ | ⟨rfl, h⟩ | ⟨rfl, h⟩ | ⟨rfl, h⟩ | ⟨rfl, h⟩ | ⟨rfl, h⟩
  · have e : encS ⟨1, num, min, br, vol, blk, ref, fr, to, un, body⟩ ++ more = put 1 1 ++ (put num 2 ++ (put min 4 ++ (put br 1 ++ (put vol 1 ++ (put blk 2 ++ (put ref 2 ++ (put body.length 1 ++ (body ++ more)))))))) := by simp [encS, show hasPlace 1 = true from rfl, show hasRef 1 = true from rfl, show hasMin 1 = false from rfl, show hasBody 1 = true from rfl, show offR 1 = 11 from rfl, show offM 1 = 13 from rfl, show offB 1 = 13 from rfl, show needS 1 = 14 from rfl]
    have g0 : gv (put 1 1 ++ (put num 2 ++ (put min 4 ++ (put br 1 ++ (put vol 1 ++ (put blk 2 ++ (put ref 2 ++ (put body.length 1 ++ (body ++ more))))))))) 0 1 = 1 := gv_here1 _ _ (by omega) (by omega)
    have g1 : gv (put 1 1 ++ (put num 2 ++ (put min 4 ++ (put br 1 ++ (put vol 1 ++ (put blk 2 ++ (put ref 2 ++ (put body.length 1 ++ (body ++ more))))))))) 13 1 = (body.length : Int) := by simp (disch := omega) only [gv_put, gv_here1, Nat.reduceSub]
    rw [e, hl]; clear e hl
    refine ⟨g0, ?_, ?_⟩
    · simp only [totalS, g0, g1, show hasPlace 1 = true from rfl, show hasRef 1 = true from rfl, show hasMin 1 = false from rfl, show hasBody 1 = true from rfl, show offR 1 = 11 from rfl, show offM 1 = 13 from rfl, show offB 1 = 13 from rfl, show needS 1 = 14 from rfl, if_true, Bool.false_eq_true, if_false, Int.toNat_natCast, Nat.add_zero]
    · simp only [cellOf, g0, g1, show hasPlace 1 = true from rfl, show hasRef 1 = true from rfl, show hasMin 1 = false from rfl, show hasBody 1 = true from rfl, show offR 1 = 11 from rfl, show offM 1 = 13 from rfl, show offB 1 = 13 from rfl, show needS 1 = 14 from rfl, if_true, Bool.false_eq_true, if_false, Int.toNat_natCast]
      refine cel_ext rfl ?_ ?_ ?_ ?_ ?_ ?_ ?_ ?_ ?_ ?_ <;> simp only <;> first | omega | (simp (disch := omega) only [gv_put, gv_here1, gv_here2, gv_here4, Nat.reduceSub, Nat.reduceAdd]; done) | (simp [h]; done) | (simp (disch := omega) only [drop_put, Nat.reduceSub, List.drop_zero, List.take_left']; done) | (simp (disch := omega) only [drop_put, Nat.reduceSub, List.drop_zero]; simp; done)
  · have e : encS ⟨2, num, min, br, vol, blk, ref, fr, to, un, body⟩ ++ more = put 2 1 ++ (put num 2 ++ (put min 4 ++ (put br 1 ++ (put vol 1 ++ (put blk 2 ++ (put ref 2 ++ more)))))) := by simp [encS, show hasPlace 2 = true from rfl, show hasRef 2 = true from rfl, show hasMin 2 = false from rfl, show hasBody 2 = false from rfl, show offR 2 = 11 from rfl, show offM 2 = 13 from rfl, show offB 2 = 13 from rfl, show needS 2 = 13 from rfl]
    have g0 : gv (put 2 1 ++ (put num 2 ++ (put min 4 ++ (put br 1 ++ (put vol 1 ++ (put blk 2 ++ (put ref 2 ++ more))))))) 0 1 = 2 := gv_here1 _ _ (by omega) (by omega)
    rw [e, hl]; clear e hl
    refine ⟨g0, ?_, ?_⟩
    · simp only [totalS, g0, show hasPlace 2 = true from rfl, show hasRef 2 = true from rfl, show hasMin 2 = false from rfl, show hasBody 2 = false from rfl, show offR 2 = 11 from rfl, show offM 2 = 13 from rfl, show offB 2 = 13 from rfl, show needS 2 = 13 from rfl, if_true, Bool.false_eq_true, if_false, Int.toNat_natCast, Nat.add_zero]; simp [h]
    · simp only [cellOf, g0, show hasPlace 2 = true from rfl, show hasRef 2 = true from rfl, show hasMin 2 = false from rfl, show hasBody 2 = false from rfl, show offR 2 = 11 from rfl, show offM 2 = 13 from rfl, show offB 2 = 13 from rfl, show needS 2 = 13 from rfl, if_true, Bool.false_eq_true, if_false, Int.toNat_natCast]
      refine cel_ext rfl ?_ ?_ ?_ ?_ ?_ ?_ ?_ ?_ ?_ ?_ <;> simp only <;> first | omega | (simp (disch := omega) only [gv_put, gv_here1, gv_here2, gv_here4, Nat.reduceSub, Nat.reduceAdd]; done) | (simp [h]; done) | (simp (disch := omega) only [drop_put, Nat.reduceSub, List.drop_zero, List.take_left']; done) | (simp (disch := omega) only [drop_put, Nat.reduceSub, List.drop_zero]; simp; done)
  · have e : encS ⟨3, num, min, br, vol, blk, ref, fr, to, un, body⟩ ++ more = put 3 1 ++ (put num 2 ++ (put min 4 ++ (put br 1 ++ (put vol 1 ++ (put blk 2 ++ (put ref 2 ++ (put body.length 1 ++ (body ++ more)))))))) := by simp [encS, show hasPlace 3 = true from rfl, show hasRef 3 = true from rfl, show hasMin 3 = false from rfl, show hasBody 3 = true from rfl, show offR 3 = 11 from rfl, show offM 3 = 13 from rfl, show offB 3 = 13 from rfl, show needS 3 = 14 from rfl]
    have g0 : gv (put 3 1 ++ (put num 2 ++ (put min 4 ++ (put br 1 ++ (put vol 1 ++ (put blk 2 ++ (put ref 2 ++ (put body.length 1 ++ (body ++ more))))))))) 0 1 = 3 := gv_here1 _ _ (by omega) (by omega)
    have g1 : gv (put 3 1 ++ (put num 2 ++ (put min 4 ++ (put br 1 ++ (put vol 1 ++ (put blk 2 ++ (put ref 2 ++ (put body.length 1 ++ (body ++ more))))))))) 13 1 = (body.length : Int) := by simp (disch := omega) only [gv_put, gv_here1, Nat.reduceSub]
    rw [e, hl]; clear e hl
    refine ⟨g0, ?_, ?_⟩
    · simp only [totalS, g0, g1, show hasPlace 3 = true from rfl, show hasRef 3 = true from rfl, show hasMin 3 = false from rfl, show hasBody 3 = true from rfl, show offR 3 = 11 from rfl, show offM 3 = 13 from rfl, show offB 3 = 13 from rfl, show needS 3 = 14 from rfl, if_true, Bool.false_eq_true, if_false, Int.toNat_natCast, Nat.add_zero]
    · simp only [cellOf, g0, g1, show hasPlace 3 = true from rfl, show hasRef 3 = true from rfl, show hasMin 3 = false from rfl, show hasBody 3 = true from rfl, show offR 3 = 11 from rfl, show offM 3 = 13 from rfl, show offB 3 = 13 from rfl, show needS 3 = 14 from rfl, if_true, Bool.false_eq_true, if_false, Int.toNat_natCast]
      refine cel_ext rfl ?_ ?_ ?_ ?_ ?_ ?_ ?_ ?_ ?_ ?_ <;> simp only <;> first | omega | (simp (disch := omega) only [gv_put, gv_here1, gv_here2, gv_here4, Nat.reduceSub, Nat.reduceAdd]; done) | (simp [h]; done) | (simp (disch := omega) only [drop_put, Nat.reduceSub, List.drop_zero, List.take_left']; done) | (simp (disch := omega) only [drop_put, Nat.reduceSub, List.drop_zero]; simp; done)
  · have e : encS ⟨4, num, min, br, vol, blk, ref, fr, to, un, body⟩ ++ more = put 4 1 ++ (put num 2 ++ (put min 4 ++ (put br 1 ++ (put vol 1 ++ (put blk 2 ++ (put ref 2 ++ more)))))) := by simp [encS, show hasPlace 4 = true from rfl, show hasRef 4 = true from rfl, show hasMin 4 = false from rfl, show hasBody 4 = false from rfl, show offR 4 = 11 from rfl, show offM 4 = 13 from rfl, show offB 4 = 13 from rfl, show needS 4 = 13 from rfl]
    have g0 : gv (put 4 1 ++ (put num 2 ++ (put min 4 ++ (put br 1 ++ (put vol 1 ++ (put blk 2 ++ (put ref 2 ++ more))))))) 0 1 = 4 := gv_here1 _ _ (by omega) (by omega)
    rw [e, hl]; clear e hl
    refine ⟨g0, ?_, ?_⟩
    · simp only [totalS, g0, show hasPlace 4 = true from rfl, show hasRef 4 = true from rfl, show hasMin 4 = false from rfl, show hasBody 4 = false from rfl, show offR 4 = 11 from rfl, show offM 4 = 13 from rfl, show offB 4 = 13 from rfl, show needS 4 = 13 from rfl, if_true, Bool.false_eq_true, if_false, Int.toNat_natCast, Nat.add_zero]; simp [h]
    · simp only [cellOf, g0, show hasPlace 4 = true from rfl, show hasRef 4 = true from rfl, show hasMin 4 = false from rfl, show hasBody 4 = false from rfl, show offR 4 = 11 from rfl, show offM 4 = 13 from rfl, show offB 4 = 13 from rfl, show needS 4 = 13 from rfl, if_true, Bool.false_eq_true, if_false, Int.toNat_natCast]
      refine cel_ext rfl ?_ ?_ ?_ ?_ ?_ ?_ ?_ ?_ ?_ ?_ <;> simp only <;> first | omega | (simp (disch := omega) only [gv_put, gv_here1, gv_here2, gv_here4, Nat.reduceSub, Nat.reduceAdd]; done) | (simp [h]; done) | (simp (disch := omega) only [drop_put, Nat.reduceSub, List.drop_zero, List.take_left']; done) | (simp (disch := omega) only [drop_put, Nat.reduceSub, List.drop_zero]; simp; done)
  · have e : encS ⟨5, num, min, br, vol, blk, ref, fr, to, un, body⟩ ++ more = put 5 1 ++ (put num 2 ++ (put min 4 ++ (put br 1 ++ (put vol 1 ++ (put blk 2 ++ more))))) := by simp [encS, show hasPlace 5 = true from rfl, show hasRef 5 = false from rfl, show hasMin 5 = false from rfl, show hasBody 5 = false from rfl, show offR 5 = 11 from rfl, show offM 5 = 11 from rfl, show offB 5 = 11 from rfl, show needS 5 = 11 from rfl]
    have g0 : gv (put 5 1 ++ (put num 2 ++ (put min 4 ++ (put br 1 ++ (put vol 1 ++ (put blk 2 ++ more)))))) 0 1 = 5 := gv_here1 _ _ (by omega) (by omega)
    rw [e, hl]; clear e hl
    refine ⟨g0, ?_, ?_⟩
    · simp only [totalS, g0, show hasPlace 5 = true from rfl, show hasRef 5 = false from rfl, show hasMin 5 = false from rfl, show hasBody 5 = false from rfl, show offR 5 = 11 from rfl, show offM 5 = 11 from rfl, show offB 5 = 11 from rfl, show needS 5 = 11 from rfl, if_true, Bool.false_eq_true, if_false, Int.toNat_natCast, Nat.add_zero]; simp [h]
    · simp only [cellOf, g0, show hasPlace 5 = true from rfl, show hasRef 5 = false from rfl, show hasMin 5 = false from rfl, show hasBody 5 = false from rfl, show offR 5 = 11 from rfl, show offM 5 = 11 from rfl, show offB 5 = 11 from rfl, show needS 5 = 11 from rfl, if_true, Bool.false_eq_true, if_false, Int.toNat_natCast]
      refine cel_ext rfl ?_ ?_ ?_ ?_ ?_ ?_ ?_ ?_ ?_ ?_ <;> simp only <;> first | omega | (simp (disch := omega) only [gv_put, gv_here1, gv_here2, gv_here4, Nat.reduceSub, Nat.reduceAdd]; done) | (simp [h]; done) | (simp (disch := omega) only [drop_put, Nat.reduceSub, List.drop_zero, List.take_left']; done) | (simp (disch := omega) only [drop_put, Nat.reduceSub, List.drop_zero]; simp; done)
  · have e : encS ⟨6, num, min, br, vol, blk, ref, fr, to, un, body⟩ ++ more = put 6 1 ++ (put num 2 ++ (put min 4 ++ (put ref 2 ++ (put fr 4 ++ (put to 4 ++ (put un 4 ++ more)))))) := by simp [encS, show hasPlace 6 = false from rfl, show hasRef 6 = true from rfl, show hasMin 6 = true from rfl, show hasBody 6 = false from rfl, show offR 6 = 7 from rfl, show offM 6 = 9 from rfl, show offB 6 = 21 from rfl, show needS 6 = 21 from rfl]
    have g0 : gv (put 6 1 ++ (put num 2 ++ (put min 4 ++ (put ref 2 ++ (put fr 4 ++ (put to 4 ++ (put un 4 ++ more))))))) 0 1 = 6 := gv_here1 _ _ (by omega) (by omega)
    rw [e, hl]; clear e hl
    refine ⟨g0, ?_, ?_⟩
    · simp only [totalS, g0, show hasPlace 6 = false from rfl, show hasRef 6 = true from rfl, show hasMin 6 = true from rfl, show hasBody 6 = false from rfl, show offR 6 = 7 from rfl, show offM 6 = 9 from rfl, show offB 6 = 21 from rfl, show needS 6 = 21 from rfl, if_true, Bool.false_eq_true, if_false, Int.toNat_natCast, Nat.add_zero]; simp [h]
    · simp only [cellOf, g0, show hasPlace 6 = false from rfl, show hasRef 6 = true from rfl, show hasMin 6 = true from rfl, show hasBody 6 = false from rfl, show offR 6 = 7 from rfl, show offM 6 = 9 from rfl, show offB 6 = 21 from rfl, show needS 6 = 21 from rfl, if_true, Bool.false_eq_true, if_false, Int.toNat_natCast]
      refine cel_ext rfl ?_ ?_ ?_ ?_ ?_ ?_ ?_ ?_ ?_ ?_ <;> simp only <;> first | omega | (simp (disch := omega) only [gv_put, gv_here1, gv_here2, gv_here4, Nat.reduceSub, Nat.reduceAdd]; done) | (simp [h]; done) | (simp (disch := omega) only [drop_put, Nat.reduceSub, List.drop_zero, List.take_left']; done) | (simp (disch := omega) only [drop_put, Nat.reduceSub, List.drop_zero]; simp; done)
  · have e : encS ⟨7, num, min, br, vol, blk, ref, fr, to, un, body⟩ ++ more = put 7 1 ++ (put num 2 ++ (put min 4 ++ (put ref 2 ++ more))) := by simp [encS, show hasPlace 7 = false from rfl, show hasRef 7 = true from rfl, show hasMin 7 = false from rfl, show hasBody 7 = false from rfl, show offR 7 = 7 from rfl, show offM 7 = 9 from rfl, show offB 7 = 9 from rfl, show needS 7 = 9 from rfl]
    have g0 : gv (put 7 1 ++ (put num 2 ++ (put min 4 ++ (put ref 2 ++ more)))) 0 1 = 7 := gv_here1 _ _ (by omega) (by omega)
    rw [e, hl]; clear e hl
    refine ⟨g0, ?_, ?_⟩
    · simp only [totalS, g0, show hasPlace 7 = false from rfl, show hasRef 7 = true from rfl, show hasMin 7 = false from rfl, show hasBody 7 = false from rfl, show offR 7 = 7 from rfl, show offM 7 = 9 from rfl, show offB 7 = 9 from rfl, show needS 7 = 9 from rfl, if_true, Bool.false_eq_true, if_false, Int.toNat_natCast, Nat.add_zero]; simp [h]
    · simp only [cellOf, g0, show hasPlace 7 = false from rfl, show hasRef 7 = true from rfl, show hasMin 7 = false from rfl, show hasBody 7 = false from rfl, show offR 7 = 7 from rfl, show offM 7 = 9 from rfl, show offB 7 = 9 from rfl, show needS 7 = 9 from rfl, if_true, Bool.false_eq_true, if_false, Int.toNat_natCast]
      refine cel_ext rfl ?_ ?_ ?_ ?_ ?_ ?_ ?_ ?_ ?_ ?_ <;> simp only <;> first | omega | (simp (disch := omega) only [gv_put, gv_here1, gv_here2, gv_here4, Nat.reduceSub, Nat.reduceAdd]; done) | (simp [h]; done) | (simp (disch := omega) only [drop_put, Nat.reduceSub, List.drop_zero, List.take_left']; done) | (simp (disch := omega) only [drop_put, Nat.reduceSub, List.drop_zero]; simp; done)
  · have e : encS ⟨8, num, min, br, vol, blk, ref, fr, to, un, body⟩ ++ more = put 8 1 ++ (put num 2 ++ (put min 4 ++ more)) := by simp [encS, show hasPlace 8 = false from rfl, show hasRef 8 = false from rfl, show hasMin 8 = false from rfl, show hasBody 8 = false from rfl, show offR 8 = 7 from rfl, show offM 8 = 7 from rfl, show offB 8 = 7 from rfl, show needS 8 = 7 from rfl]
    have g0 : gv (put 8 1 ++ (put num 2 ++ (put min 4 ++ more))) 0 1 = 8 := gv_here1 _ _ (by omega) (by omega)
    rw [e, hl]; clear e hl
    refine ⟨g0, ?_, ?_⟩
    · simp only [totalS, g0, show hasPlace 8 = false from rfl, show hasRef 8 = false from rfl, show hasMin 8 = false from rfl, show hasBody 8 = false from rfl, show offR 8 = 7 from rfl, show offM 8 = 7 from rfl, show offB 8 = 7 from rfl, show needS 8 = 7 from rfl, if_true, Bool.false_eq_true, if_false, Int.toNat_natCast, Nat.add_zero]; simp [h]
    · simp only [cellOf, g0, show hasPlace 8 = false from rfl, show hasRef 8 = false from rfl, show hasMin 8 = false from rfl, show hasBody 8 = false from rfl, show offR 8 = 7 from rfl, show offM 8 = 7 from rfl, show offB 8 = 7 from rfl, show needS 8 = 7 from rfl, if_true, Bool.false_eq_true, if_false, Int.toNat_natCast]
      refine cel_ext rfl ?_ ?_ ?_ ?_ ?_ ?_ ?_ ?_ ?_ ?_ <;> simp only <;> first | omega | (simp (disch := omega) only [gv_put, gv_here1, gv_here2, gv_here4, Nat.reduceSub, Nat.reduceAdd]; done) | (simp [h]; done) | (simp (disch := omega) only [drop_put, Nat.reduceSub, List.drop_zero, List.take_left']; done) | (simp (disch := omega) only [drop_put, Nat.reduceSub, List.drop_zero]; simp; done)
theorem dec_all (x : Cel) (hw : CelWf x) (h : rightB x = true) (more : List Int) : decS (encS x ++ more) = (x, more, 0) := by
  obtain ⟨h1, h2, h3⟩ := dec_enc x hw h more
  have hl := encS_len x hw h
  have hk : hasKind x.kind = true := by
    obtain ⟨_, h⟩ := (right_iff x hw).1 h
    exact decide_eq_true (by omega)
  rw [decS, if_neg (by rw [List.length_append]; omega), h1, if_neg (by rw [hk]; simp), h2, if_neg (by rw [List.length_append]; omega), h3, if_pos h, List.drop_left]
theorem dec_cut (x : Cel) (hw : CelWf x) (h : rightB x = true) (k : Nat) (hk : k < (encS x).length) : decS ((encS x).take k) = (cel0, [], 14) := by
  obtain ⟨h1, h2, _⟩ := dec_enc x hw h []
  rw [List.append_nil] at h1 h2
  have hl := encS_len x hw h
  have hkk : hasKind x.kind = true := by
    obtain ⟨_, h⟩ := (right_iff x hw).1 h
    exact decide_eq_true (by omega)
  by_cases h0 : k = 0
  · subst h0; rfl
  · have g0 : gv ((encS x).take k) 0 1 = x.kind := by rw [gv_take _ _ _ _ (by omega) (by omega), h1]
    have hlen : ((encS x).take k).length = k := by rw [List.length_take]; omega
    have ht : k < totalS ((encS x).take k) := by
      unfold totalS at h2 ⊢
      rw [g0]
      rw [h1] at h2
      by_cases hb : hasBody x.kind = true
      · have hn : needS x.kind = offB x.kind + 1 := by rw [needS, if_pos hb]
        by_cases hc : needS x.kind ≤ k
        · rw [if_pos hb, gv_take _ _ _ _ (by omega) (by omega)]
          rw [if_pos hb] at h2
          omega
        · omega
      · rw [if_neg hb] at h2 ⊢
        omega
    rw [decS, if_neg (by omega), g0, if_neg (by rw [hkk]; simp), hlen, if_pos ht]
theorem cell_wf {b : List Int} (hb : Byt b) : CelWf (cellOf b) := by
  refine ⟨?_, ?_, ?_⟩
  · have := gv_range hb 1 2
    exact ⟨this.1, by show gv b 1 2 < _; omega⟩
  · show 0 ≤ (if hasRef (gv b 0 1) then _ else _) ∧ _
    simp only [cellOf]
    split
    · have := gv_range hb (offR (gv b 0 1)) 2
      exact ⟨this.1, by omega⟩
    · exact ⟨by omega, by omega⟩
  · simp only [cellOf]
    split
    · exact (hb.drop _).take _
    · exact Byt.nil
theorem cutJ (b : List Int) (m n k : Nat) (h : k = m + n) : (b.drop m).take n ++ b.drop k = b.drop m := by
  rw [h, ← List.drop_drop, List.take_append_drop]
/-- What was read has just those bytes. -/
theorem enc_cellOf {b : List Int} (hb : Byt b) (hl : totalS b ≤ b.length) (hk : hasKind (gv b 0 1) = true) : encS (cellOf b) ++ b.drop (totalS b) = b := by
  have hk' := of_decide_eq_true hk
  obtain ⟨k, hkk⟩ : ∃ k, k = gv b 0 1 := ⟨_, rfl⟩
  have hks : k = 1 ∨ k = 2 ∨ k = 3 ∨ k = 4 ∨ k = 5 ∨ k = 6 ∨ k = 7 ∨ k = 8 := by omega
  clear hk hk'
  rcases hks with rfl | rfl | rfl | rfl | rfl | rfl | rfl | rfl
  · have ht : totalS b = 14 + (gv b 13 1).toNat := by simp only [totalS, ← hkk, show hasPlace 1 = true from rfl, show hasRef 1 = true from rfl, show hasMin 1 = false from rfl, show hasBody 1 = true from rfl, show offR 1 = 11 from rfl, show offM 1 = 13 from rfl, show offB 1 = 13 from rfl, show needS 1 = 14 from rfl, if_true, Bool.false_eq_true, if_false, Nat.add_zero]
    rw [ht] at hl ⊢
    have hg := gv_range hb 13 1
    have hbl : ((((b.drop 14).take (gv b 13 1).toNat).length : Nat) : Int) = gv b 13 1 := by rw [List.length_take, List.length_drop]; omega
    have q0 : put 1 1 = (b.drop 0).take 1 := by rw [hkk]; exact gv_full hb (by omega)
    have q1 : put (gv b 1 2) 2 = (b.drop 1).take 2 := by exact gv_full hb (by omega)
    have q3 : put (gv b 3 4) 4 = (b.drop 3).take 4 := by exact gv_full hb (by omega)
    have q7 : put (gv b 7 1) 1 = (b.drop 7).take 1 := by exact gv_full hb (by omega)
    have q8 : put (gv b 8 1) 1 = (b.drop 8).take 1 := by exact gv_full hb (by omega)
    have q9 : put (gv b 9 2) 2 = (b.drop 9).take 2 := by exact gv_full hb (by omega)
    have q11 : put (gv b 11 2) 2 = (b.drop 11).take 2 := by exact gv_full hb (by omega)
    have q13 : put (gv b 13 1) 1 = (b.drop 13).take 1 := by exact gv_full hb (by omega)
    simp only [encS, cellOf, ← hkk, show hasPlace 1 = true from rfl, show hasRef 1 = true from rfl, show hasMin 1 = false from rfl, show hasBody 1 = true from rfl, show offR 1 = 11 from rfl, show offM 1 = 13 from rfl, show offB 1 = 13 from rfl, show needS 1 = 14 from rfl, if_true, Bool.false_eq_true, if_false, List.append_nil, List.nil_append, List.append_assoc, Nat.reduceAdd, hbl, q0, q1, q3, q7, q8, q9, q11, q13]
    rw [cutJ b 14 _ _ rfl]
    rw [cutJ b 13 1 14 rfl]
    rw [cutJ b 11 2 13 rfl]
    rw [cutJ b 9 2 11 rfl]
    rw [cutJ b 8 1 9 rfl]
    rw [cutJ b 7 1 8 rfl]
    rw [cutJ b 3 4 7 rfl]
    rw [cutJ b 1 2 3 rfl]
    rw [cutJ b 0 1 1 rfl]
    rfl
  · have ht : totalS b = 13 := by simp only [totalS, ← hkk, show hasPlace 2 = true from rfl, show hasRef 2 = true from rfl, show hasMin 2 = false from rfl, show hasBody 2 = false from rfl, show offR 2 = 11 from rfl, show offM 2 = 13 from rfl, show offB 2 = 13 from rfl, show needS 2 = 13 from rfl, if_true, Bool.false_eq_true, if_false, Nat.add_zero]
    rw [ht] at hl ⊢
    have q0 : put 2 1 = (b.drop 0).take 1 := by rw [hkk]; exact gv_full hb (by omega)
    have q1 : put (gv b 1 2) 2 = (b.drop 1).take 2 := by exact gv_full hb (by omega)
    have q3 : put (gv b 3 4) 4 = (b.drop 3).take 4 := by exact gv_full hb (by omega)
    have q7 : put (gv b 7 1) 1 = (b.drop 7).take 1 := by exact gv_full hb (by omega)
    have q8 : put (gv b 8 1) 1 = (b.drop 8).take 1 := by exact gv_full hb (by omega)
    have q9 : put (gv b 9 2) 2 = (b.drop 9).take 2 := by exact gv_full hb (by omega)
    have q11 : put (gv b 11 2) 2 = (b.drop 11).take 2 := by exact gv_full hb (by omega)
    simp only [encS, cellOf, ← hkk, show hasPlace 2 = true from rfl, show hasRef 2 = true from rfl, show hasMin 2 = false from rfl, show hasBody 2 = false from rfl, show offR 2 = 11 from rfl, show offM 2 = 13 from rfl, show offB 2 = 13 from rfl, show needS 2 = 13 from rfl, if_true, Bool.false_eq_true, if_false, List.append_nil, List.nil_append, List.append_assoc, Nat.reduceAdd, q0, q1, q3, q7, q8, q9, q11]
    rw [cutJ b 11 2 13 rfl]
    rw [cutJ b 9 2 11 rfl]
    rw [cutJ b 8 1 9 rfl]
    rw [cutJ b 7 1 8 rfl]
    rw [cutJ b 3 4 7 rfl]
    rw [cutJ b 1 2 3 rfl]
    rw [cutJ b 0 1 1 rfl]
    rfl
  · have ht : totalS b = 14 + (gv b 13 1).toNat := by simp only [totalS, ← hkk, show hasPlace 3 = true from rfl, show hasRef 3 = true from rfl, show hasMin 3 = false from rfl, show hasBody 3 = true from rfl, show offR 3 = 11 from rfl, show offM 3 = 13 from rfl, show offB 3 = 13 from rfl, show needS 3 = 14 from rfl, if_true, Bool.false_eq_true, if_false, Nat.add_zero]
    rw [ht] at hl ⊢
    have hg := gv_range hb 13 1
    have hbl : ((((b.drop 14).take (gv b 13 1).toNat).length : Nat) : Int) = gv b 13 1 := by rw [List.length_take, List.length_drop]; omega
    have q0 : put 3 1 = (b.drop 0).take 1 := by rw [hkk]; exact gv_full hb (by omega)
    have q1 : put (gv b 1 2) 2 = (b.drop 1).take 2 := by exact gv_full hb (by omega)
    have q3 : put (gv b 3 4) 4 = (b.drop 3).take 4 := by exact gv_full hb (by omega)
    have q7 : put (gv b 7 1) 1 = (b.drop 7).take 1 := by exact gv_full hb (by omega)
    have q8 : put (gv b 8 1) 1 = (b.drop 8).take 1 := by exact gv_full hb (by omega)
    have q9 : put (gv b 9 2) 2 = (b.drop 9).take 2 := by exact gv_full hb (by omega)
    have q11 : put (gv b 11 2) 2 = (b.drop 11).take 2 := by exact gv_full hb (by omega)
    have q13 : put (gv b 13 1) 1 = (b.drop 13).take 1 := by exact gv_full hb (by omega)
    simp only [encS, cellOf, ← hkk, show hasPlace 3 = true from rfl, show hasRef 3 = true from rfl, show hasMin 3 = false from rfl, show hasBody 3 = true from rfl, show offR 3 = 11 from rfl, show offM 3 = 13 from rfl, show offB 3 = 13 from rfl, show needS 3 = 14 from rfl, if_true, Bool.false_eq_true, if_false, List.append_nil, List.nil_append, List.append_assoc, Nat.reduceAdd, hbl, q0, q1, q3, q7, q8, q9, q11, q13]
    rw [cutJ b 14 _ _ rfl]
    rw [cutJ b 13 1 14 rfl]
    rw [cutJ b 11 2 13 rfl]
    rw [cutJ b 9 2 11 rfl]
    rw [cutJ b 8 1 9 rfl]
    rw [cutJ b 7 1 8 rfl]
    rw [cutJ b 3 4 7 rfl]
    rw [cutJ b 1 2 3 rfl]
    rw [cutJ b 0 1 1 rfl]
    rfl
  · have ht : totalS b = 13 := by simp only [totalS, ← hkk, show hasPlace 4 = true from rfl, show hasRef 4 = true from rfl, show hasMin 4 = false from rfl, show hasBody 4 = false from rfl, show offR 4 = 11 from rfl, show offM 4 = 13 from rfl, show offB 4 = 13 from rfl, show needS 4 = 13 from rfl, if_true, Bool.false_eq_true, if_false, Nat.add_zero]
    rw [ht] at hl ⊢
    have q0 : put 4 1 = (b.drop 0).take 1 := by rw [hkk]; exact gv_full hb (by omega)
    have q1 : put (gv b 1 2) 2 = (b.drop 1).take 2 := by exact gv_full hb (by omega)
    have q3 : put (gv b 3 4) 4 = (b.drop 3).take 4 := by exact gv_full hb (by omega)
    have q7 : put (gv b 7 1) 1 = (b.drop 7).take 1 := by exact gv_full hb (by omega)
    have q8 : put (gv b 8 1) 1 = (b.drop 8).take 1 := by exact gv_full hb (by omega)
    have q9 : put (gv b 9 2) 2 = (b.drop 9).take 2 := by exact gv_full hb (by omega)
    have q11 : put (gv b 11 2) 2 = (b.drop 11).take 2 := by exact gv_full hb (by omega)
    simp only [encS, cellOf, ← hkk, show hasPlace 4 = true from rfl, show hasRef 4 = true from rfl, show hasMin 4 = false from rfl, show hasBody 4 = false from rfl, show offR 4 = 11 from rfl, show offM 4 = 13 from rfl, show offB 4 = 13 from rfl, show needS 4 = 13 from rfl, if_true, Bool.false_eq_true, if_false, List.append_nil, List.nil_append, List.append_assoc, Nat.reduceAdd, q0, q1, q3, q7, q8, q9, q11]
    rw [cutJ b 11 2 13 rfl]
    rw [cutJ b 9 2 11 rfl]
    rw [cutJ b 8 1 9 rfl]
    rw [cutJ b 7 1 8 rfl]
    rw [cutJ b 3 4 7 rfl]
    rw [cutJ b 1 2 3 rfl]
    rw [cutJ b 0 1 1 rfl]
    rfl
  · have ht : totalS b = 11 := by simp only [totalS, ← hkk, show hasPlace 5 = true from rfl, show hasRef 5 = false from rfl, show hasMin 5 = false from rfl, show hasBody 5 = false from rfl, show offR 5 = 11 from rfl, show offM 5 = 11 from rfl, show offB 5 = 11 from rfl, show needS 5 = 11 from rfl, if_true, Bool.false_eq_true, if_false, Nat.add_zero]
    rw [ht] at hl ⊢
    have q0 : put 5 1 = (b.drop 0).take 1 := by rw [hkk]; exact gv_full hb (by omega)
    have q1 : put (gv b 1 2) 2 = (b.drop 1).take 2 := by exact gv_full hb (by omega)
    have q3 : put (gv b 3 4) 4 = (b.drop 3).take 4 := by exact gv_full hb (by omega)
    have q7 : put (gv b 7 1) 1 = (b.drop 7).take 1 := by exact gv_full hb (by omega)
    have q8 : put (gv b 8 1) 1 = (b.drop 8).take 1 := by exact gv_full hb (by omega)
    have q9 : put (gv b 9 2) 2 = (b.drop 9).take 2 := by exact gv_full hb (by omega)
    simp only [encS, cellOf, ← hkk, show hasPlace 5 = true from rfl, show hasRef 5 = false from rfl, show hasMin 5 = false from rfl, show hasBody 5 = false from rfl, show offR 5 = 11 from rfl, show offM 5 = 11 from rfl, show offB 5 = 11 from rfl, show needS 5 = 11 from rfl, if_true, Bool.false_eq_true, if_false, List.append_nil, List.nil_append, List.append_assoc, Nat.reduceAdd, q0, q1, q3, q7, q8, q9]
    rw [cutJ b 9 2 11 rfl]
    rw [cutJ b 8 1 9 rfl]
    rw [cutJ b 7 1 8 rfl]
    rw [cutJ b 3 4 7 rfl]
    rw [cutJ b 1 2 3 rfl]
    rw [cutJ b 0 1 1 rfl]
    rfl
  · have ht : totalS b = 21 := by simp only [totalS, ← hkk, show hasPlace 6 = false from rfl, show hasRef 6 = true from rfl, show hasMin 6 = true from rfl, show hasBody 6 = false from rfl, show offR 6 = 7 from rfl, show offM 6 = 9 from rfl, show offB 6 = 21 from rfl, show needS 6 = 21 from rfl, if_true, Bool.false_eq_true, if_false, Nat.add_zero]
    rw [ht] at hl ⊢
    have q0 : put 6 1 = (b.drop 0).take 1 := by rw [hkk]; exact gv_full hb (by omega)
    have q1 : put (gv b 1 2) 2 = (b.drop 1).take 2 := by exact gv_full hb (by omega)
    have q3 : put (gv b 3 4) 4 = (b.drop 3).take 4 := by exact gv_full hb (by omega)
    have q7 : put (gv b 7 2) 2 = (b.drop 7).take 2 := by exact gv_full hb (by omega)
    have q9 : put (gv b 9 4) 4 = (b.drop 9).take 4 := by exact gv_full hb (by omega)
    have q13 : put (gv b 13 4) 4 = (b.drop 13).take 4 := by exact gv_full hb (by omega)
    have q17 : put (gv b 17 4) 4 = (b.drop 17).take 4 := by exact gv_full hb (by omega)
    simp only [encS, cellOf, ← hkk, show hasPlace 6 = false from rfl, show hasRef 6 = true from rfl, show hasMin 6 = true from rfl, show hasBody 6 = false from rfl, show offR 6 = 7 from rfl, show offM 6 = 9 from rfl, show offB 6 = 21 from rfl, show needS 6 = 21 from rfl, if_true, Bool.false_eq_true, if_false, List.append_nil, List.nil_append, List.append_assoc, Nat.reduceAdd, q0, q1, q3, q7, q9, q13, q17]
    rw [cutJ b 17 4 21 rfl]
    rw [cutJ b 13 4 17 rfl]
    rw [cutJ b 9 4 13 rfl]
    rw [cutJ b 7 2 9 rfl]
    rw [cutJ b 3 4 7 rfl]
    rw [cutJ b 1 2 3 rfl]
    rw [cutJ b 0 1 1 rfl]
    rfl
  · have ht : totalS b = 9 := by simp only [totalS, ← hkk, show hasPlace 7 = false from rfl, show hasRef 7 = true from rfl, show hasMin 7 = false from rfl, show hasBody 7 = false from rfl, show offR 7 = 7 from rfl, show offM 7 = 9 from rfl, show offB 7 = 9 from rfl, show needS 7 = 9 from rfl, if_true, Bool.false_eq_true, if_false, Nat.add_zero]
    rw [ht] at hl ⊢
    have q0 : put 7 1 = (b.drop 0).take 1 := by rw [hkk]; exact gv_full hb (by omega)
    have q1 : put (gv b 1 2) 2 = (b.drop 1).take 2 := by exact gv_full hb (by omega)
    have q3 : put (gv b 3 4) 4 = (b.drop 3).take 4 := by exact gv_full hb (by omega)
    have q7 : put (gv b 7 2) 2 = (b.drop 7).take 2 := by exact gv_full hb (by omega)
    simp only [encS, cellOf, ← hkk, show hasPlace 7 = false from rfl, show hasRef 7 = true from rfl, show hasMin 7 = false from rfl, show hasBody 7 = false from rfl, show offR 7 = 7 from rfl, show offM 7 = 9 from rfl, show offB 7 = 9 from rfl, show needS 7 = 9 from rfl, if_true, Bool.false_eq_true, if_false, List.append_nil, List.nil_append, List.append_assoc, Nat.reduceAdd, q0, q1, q3, q7]
    rw [cutJ b 7 2 9 rfl]
    rw [cutJ b 3 4 7 rfl]
    rw [cutJ b 1 2 3 rfl]
    rw [cutJ b 0 1 1 rfl]
    rfl
  · have ht : totalS b = 7 := by simp only [totalS, ← hkk, show hasPlace 8 = false from rfl, show hasRef 8 = false from rfl, show hasMin 8 = false from rfl, show hasBody 8 = false from rfl, show offR 8 = 7 from rfl, show offM 8 = 7 from rfl, show offB 8 = 7 from rfl, show needS 8 = 7 from rfl, if_true, Bool.false_eq_true, if_false, Nat.add_zero]
    rw [ht] at hl ⊢
    have q0 : put 8 1 = (b.drop 0).take 1 := by rw [hkk]; exact gv_full hb (by omega)
    have q1 : put (gv b 1 2) 2 = (b.drop 1).take 2 := by exact gv_full hb (by omega)
    have q3 : put (gv b 3 4) 4 = (b.drop 3).take 4 := by exact gv_full hb (by omega)
    simp only [encS, cellOf, ← hkk, show hasPlace 8 = false from rfl, show hasRef 8 = false from rfl, show hasMin 8 = false from rfl, show hasBody 8 = false from rfl, show offR 8 = 7 from rfl, show offM 8 = 7 from rfl, show offB 8 = 7 from rfl, show needS 8 = 7 from rfl, if_true, Bool.false_eq_true, if_false, List.append_nil, List.nil_append, List.append_assoc, Nat.reduceAdd, q0, q1, q3]
    rw [cutJ b 3 4 7 rfl]
    rw [cutJ b 1 2 3 rfl]
    rw [cutJ b 0 1 1 rfl]
    rfl
theorem dec_inv {b r : List Int} {c : Cel} (hb : Byt b) (h : decS b = (c, r, 0)) : rightB c = true ∧ CelWf c ∧ encS c ++ r = b := by
  unfold decS at h
  split at h
  · simp at h
  split at h
  · simp at h
  split at h
  · simp at h
  split at h
  · rename_i h1 h2 h3 h4
    simp only [Prod.mk.injEq] at h
    obtain ⟨rfl, rfl, _⟩ := h
    exact ⟨h4, cell_wf hb, enc_cellOf hb (by omega) (by simpa using h2)⟩
  · simp at h
theorem dec_none {b r : List Int} {c : Cel} {e : Int} (h : decS b = (c, r, e)) (he : e ≠ 0) : c = cel0 ∧ r = [] ∧ (e = 14 ∨ e = 3) := by
  unfold decS at h
  split at h
  · simp only [Prod.mk.injEq] at h; exact ⟨h.1.symm, h.2.1.symm, .inl h.2.2.symm⟩
  split at h
  · simp only [Prod.mk.injEq] at h; exact ⟨h.1.symm, h.2.1.symm, .inr h.2.2.symm⟩
  split at h
  · simp only [Prod.mk.injEq] at h; exact ⟨h.1.symm, h.2.1.symm, .inl h.2.2.symm⟩
  split at h
  · simp only [Prod.mk.injEq] at h; exact absurd h.2.2.symm he
  · simp only [Prod.mk.injEq] at h; exact ⟨h.1.symm, h.2.1.symm, .inr h.2.2.symm⟩
/-- Two that may be have the same bytes just if they are the same. -/
theorem enc_inj {x y : Cel} (hx : CelWf x) (hy : CelWf y) (h1 : rightB x = true) (h2 : rightB y = true) : encS x = encS y ↔ x = y := by
  constructor
  · intro h
    have e1 := dec_all x hx h1 []
    have e2 := dec_all y hy h2 []
    rw [h, e2] at e1
    exact (congrArg Prod.fst e1).symm
  · rintro rfl; rfl
end Go.Proofs.Ytghcnipehgjegaa.Plain
