/- What cell.Encode, and the closure that puts numbers, answer. Conditions stand in each statement. -/
import Derived.Test.YtghcnipehgjegaaCellRight
import Derived.Test.YtghcnipehgjegaaWirePG
namespace Go.Proofs.Ytghcnipehgjegaa.Cell
open Go.RowKit Go.Proofs.YtghcnipehgjegaaW.PrintWords Go.Proofs.YtghcnipehgjegaaW.PrintLast Go.Proofs.YtghcnipehgjegaaW.PrintMore Go.Proofs.Ytghcnipehgjegaa.Kit Go.Proofs.Ytghcnipehgjegaa.Plain Go.Proofs.Ytghcnipehgjegaa.Wire
set_option linter.unusedVariables false
set_option linter.unusedSimpArgs false
theorem right_small {x : Cel} (hw : CelWf x) (h : rightB x = true) : ((1 ≤ x.kind ∧ x.kind ≤ 8) ∧ (1 ≤ x.num ∧ x.num ≤ 65535) ∧ (0 ≤ x.min ∧ x.min ≤ 1073741824) ∧ (0 ≤ x.ref ∧ x.ref ≤ 65535)) ∧
    ((0 ≤ x.br ∧ x.br ≤ 15) ∧ (0 ≤ x.vol ∧ x.vol ≤ 15) ∧ (0 ≤ x.blk ∧ x.blk ≤ 255) ∧ (0 ≤ x.fr ∧ x.fr ≤ 1073741824) ∧ (0 ≤ x.to ∧ x.to ≤ 1073741824) ∧ (0 ≤ x.un ∧ x.un ≤ 1073741824)) ∧ x.body.length ≤ 32 := by
  obtain ⟨h1, h2⟩ := (right_iff x hw).1 h
  rcases h2 with ⟨h2, h⟩ | ⟨h2, h⟩ | ⟨h2, h⟩ | ⟨h2, h⟩ | ⟨h2, h⟩ | ⟨h2, h⟩ | ⟨h2, h⟩ | ⟨h2, h⟩ <;> (have hb : x.body.length ≤ 32 := by first | omega | (rw [show x.body = [] from by simp [h]]; simp)) <;> omega
/-- All numbers of a list, each in so many bytes. -/
def puts (s : Nat) (l : List Int) : List Int := (l.map (fun n => put n s)).flatten
theorem puts_snoc {s : Nat} {l : List Int} {i : Nat} (h : i < l.length) : puts s (l.take (i + 1)) = puts s (l.take i) ++ put (nth l i) s := by
  rw [take_snoc h]; simp [puts]
theorem puts_len {s : Nat} {l : List Int} : (puts s l).length = l.length * s := by
  induction l with
  | nil => simp [puts]
  | cons x l ih => simp only [puts, List.map_cons, List.flatten_cons, List.length_append, List.length_cons, put_len] at ih ⊢; rw [ih, Nat.succ_mul]; omega
/-- All blocks below base but p stay. -/
structure KpB (base p : Nat) (w W : World) : Prop where
  os : W.os = w.os
  tape : W.tape = w.tape
  output : W.output = w.output
  size : w.heap.size ≤ W.heap.size
  block : ∀ k, k < base → k ≠ p → W.heap[k]? = w.heap[k]?
theorem KpB.refl (base p : Nat) (w : World) : KpB base p w w := { os := rfl, tape := rfl, output := rfl, size := Nat.le_refl _, block := fun _ _ _ => rfl }
theorem KpB.then {base p B : Nat} {w W W2 : World} (h : KpB base p w W) (k : Below B W W2) (hB : base ≤ B) : KpB base p w W2 :=
  { os := k.os.trans h.os, tape := k.tape.trans h.tape, output := k.output.trans h.output, size := Nat.le_trans h.size k.size, block := fun i hi hn => (k.block i (Nat.lt_of_lt_of_le hi hB)).trans (h.block i hi hn) }
theorem KpB.trans {base p : Nat} {w W W2 : World} (h : KpB base p w W) (k : KpB base p W W2) : KpB base p w W2 :=
  { os := k.os.trans h.os, tape := k.tape.trans h.tape, output := k.output.trans h.output, size := Nat.le_trans h.size k.size, block := fun i hi hn => (k.block i hi hn).trans (h.block i hi hn) }
theorem KpB.set_ {base p : Nat} {w W : World} (h : KpB base p w W) (j : Nat) (u : Value) : KpB base p w (W.setCell ⟨p, j, none⟩ u) := by
  have hb : Below p W (W.setCell ⟨p, j, none⟩ u) := (Below.refl p W).setCell (Nat.le_refl p) u
  exact { os := hb.os.trans h.os, tape := hb.tape.trans h.tape, output := hb.output.trans h.output, size := Nat.le_trans h.size hb.size, block := fun i hi hn => (Below.heap_setCell W ⟨p, j, none⟩ u i hn).trans (h.block i hi hn) }
theorem KpB.below {base p B : Nat} {w W : World} (h : KpB base p w W) (h1 : B ≤ base) (h2 : B ≤ p) : Below B w W := ⟨h.os, h.tape, h.output, h.size, fun k hk => h.block k (by omega) (by omega)⟩
/-- A store into another block than what is own. -/
theorem R_set_far' {e base g i : Nat} {W : World} {v u : Value} {xs : List Int} (h : Kd.R (Kd.int .u8) e W base (fun _ => True) v xs) (hne : some g ≠ v.ownBlock) : Kd.R (Kd.int .u8) e (W.setCell ⟨g, i, none⟩ u) base (fun _ => True) v xs :=
  Kd.R_mono (R_set_far (Kd.R_far1 h rfl hne) (fun k hk => hk.2)) (fun _ _ => trivial)
def tabE3 : Bool × List (List Nat × List Nat) := (true, [([], []), ([], []), ([1], [1]), ([], []), ([2, 3], [2, 3]), ([0, 4, 4], [0, 4]), ([5, 5, 0, 1, 2, 3, 4, 5], [5])])
theorem tabE3_ok : rtab .any (opsOf Try.f35 3) = tabE3 := by kernel_rfl
set_option maxHeartbeats 1600000 in
set_option maxRecDepth 100000 in
theorem encput_any (s gl c : Nat) (l : List Int) (p base : Nat) (v : Value) (y : List Int) (w : World) (hr : Kd.C (Kd.int .i64) w (some ⟨gl, 0, none⟩) l.length l) (hl : ∀ x ∈ l, 0 ≤ x ∧ x < 2 ^ 63) (hn : l.length ≤ 1000) (hs : 1 ≤ s ∧ s ≤ 8) (hy : y.length ≤ 1000000)
    (gcs : Array Value) (hgl : w.heap[gl]? = some (.cells gcs 3 (0, 0))) (hp : w.heap[p]? = some (.cells #[v] 28 (0, 0))) (ho : OwB w base v y) (hpb : p < base) (hbase : base ≤ w.heap.size) :
    Calls Try.prog 35 #[.int .i64 s, .slice (some ⟨gl, 0, none⟩) l.length c, .pointer (some ⟨p, 0, none⟩)] w fun e w' => e = .returned (.tuple #[]) ∧ ∃ v', w'.heap[p]? = some (.cells #[v'] 28 (0, 0)) ∧ OwB w' base v' (y ++ puts s l) ∧ KpB base p w w' := by
  have HR := Aside0.mk hr
  have HL := Aside0.mk hl
  have HS := Aside0.mk hs
  have HP := Aside0.mk hp
  have HO := Aside0.mk ho
  have HF := Aside0.mk (And.intro (blk_lt hgl) (And.intro (blk_ne hgl hp (by decide)) (And.intro hpb hbase)))
  have HGL := Aside0.mk hgl
  have hs8 : s ≤ 8 := hs.2
  clear hr hl hs hp ho hgl hpb hbase
  go_enter Try.func35, Try.ntmps35
  go_wp2
  go_loopg [9] l.length (fun gk u w' => ∃ (i : Nat) (v' : Value), u = .int .i64 (i : Int) ∧ i + gk = l.length ∧ Aside0 (w'.heap[p]? = some (.cells #[v'] 28 (0, 0))) ∧ Aside0 (OwB w' base v' (y ++ puts s (l.take i))) ∧ Aside0 (KpB base p w w') ∧ Aside0 (w'.heap[gl]? = w.heap[gl]?))
  case atStart => exact ⟨0, v, rfl, by omega, HP, ⟨by simpa [puts] using HO.out⟩, ⟨KpB.refl _ _ _⟩, ⟨rfl⟩⟩
  case round =>
    clear HP HO
    obtain ⟨i, v', rfl, hi, HP, HO, HK, HG⟩ := hrel
    by_cases hlt : i < l.length
    · obtain ⟨y1, hy1⟩ : ∃ y1, y1 = y ++ puts s (l.take i) := ⟨_, rfl⟩
      have hyl : y1.length ≤ 1010000 := by
        rw [hy1, List.length_append, puts_len, List.length_take]
        have : min i l.length * s ≤ 1000 * 8 := Nat.mul_le_mul (by omega) hs8
        omega
      rw [← hy1] at HO
      have HY1 := Aside0.mk hy1
      clear hy1
      obtain ⟨A', c', rfl⟩ := Kd.R_slice HO.out
      obtain ⟨ad, he, hc⟩ := C_at HR.out i hlt
      injection he with he
      subst he
      have hcw : wr.cell? ⟨gl, i, none⟩ = some (.int .i64 (nth l i)) := by
        have hc' : w.cell? ⟨gl, i, none⟩ = some (.int .i64 (nth l i)) := by simpa [add_plain] using hc
        rw [← hc']
        exact World.cell?_of_block HG.out
      have hx := HL.out _ (nth_mem hlt)
      have hx0 : 0 ≤ nth l i := hx.1
      have e1 : IntKind.u64.wrap (nth l i) = nth l i := wrap_u64_in _ hx.1 (by have := hx.2; omega)
      have hi0 : 0 ≤ (i : Int) := by omega
      have hi1 : (i : Int) < (l.length : Int) := by omega
      clear hc hx
      have HB := Aside0.mk (Below.refl wr.heap.size wr)
      go_wp2_with (fail)
      refine start_ (n := 7) (S := fun w' => w'.cell? ⟨p, 0, none⟩ = some (.slice A' y1.length c')) (ds := [6]) #[false, false, false, false, false, false, false] (by kernel_rfl) rfl rfl (blk_cell HP.out 0) (fun hHeld => ?_); refine with_tab tabE3_ok (fun HT_ => ?_)
      have hb : Below wr.heap.size wr wr.drew := below_drew (Below.refl _ _)
      replace HO := Aside0.mk (Kd.R_below HO.out hb)
      replace HP := Aside0.mk ((hb.block _ (blk_lt HP.out)).trans HP.out)
      replace HG := Aside0.mk ((hb.block _ (Nat.lt_of_lt_of_le HF.out.1 HK.out.size)).trans HG.out)
      replace HK := Aside0.mk (HK.out.then hb (Nat.le_trans HF.out.2.2.2 HK.out.size))
      clear hb
      have hq := HF.out
      refine take_ (i := 0) (N := some 13) (v := ?_) (a' := ?_) #[true, false, false, false, false, false, false] rfl rfl (take_of HT_.out (by kernel_rfl)) (fun _ _ _ h => h) (Or.inl ⟨by rfl, ?_⟩) hHeld ?_ ?_
      rotate_left
      · intro w' hw'
        skip
        go_simp
        with_reducible rfl
      rotate_left
      · simp only [Act.put, List.setIfInBounds_toArray, List.set_cons_zero, List.set_cons_succ]
        rfl
      refine pure_ (i := 1) (N := some 14) (v := ?_) (a' := ?_) #[true, true, false, false, false, false, false] rfl rfl (any_of HT_.out (by kernel_rfl)) (fun _ _ _ h => h) (Or.inl ⟨by rfl, ?_⟩) ?_ ?_
      rotate_left
      · intro w'
        go_simp
        with_reducible rfl
      rotate_left
      · simp only [Act.put, List.setIfInBounds_toArray, List.set_cons_zero, List.set_cons_succ]
        rfl
      refine pure_ (i := 2) (N := some 15) (v := ?_) (a' := ?_) #[true, true, true, false, false, false, false] rfl rfl (any_of HT_.out (by kernel_rfl)) (fun _ _ _ h => h) (Or.inl ⟨by rfl, ?_⟩) ?_ ?_
      rotate_left
      · intro w'
        go_simp
        with_reducible rfl
      rotate_left
      · simp only [Act.put, List.setIfInBounds_toArray, List.set_cons_zero, List.set_cons_succ]
        rfl
      refine pure_ (i := 3) (N := some 16) (v := ?_) (a' := ?_) #[true, true, true, true, false, false, false] rfl rfl (any_of HT_.out (by kernel_rfl)) (fun _ _ _ h => h) (Or.inl ⟨by rfl, ?_⟩) ?_ ?_
      rotate_left
      · intro w'
        go_simp
        with_reducible rfl
      rotate_left
      · simp only [Act.put, List.setIfInBounds_toArray, List.set_cons_zero, List.set_cons_succ]
        rfl
      refine one_ (i := 4) (N := some 17) #[true, true, true, true, true, false, false] rfl rfl (one_of HT_.out (by kernel_rfl)) (by decide) (fun Kq_ hK_ => ?_)
      refine goes_ Try.func30 (by kernel_rfl) rfl #[.int .u64 (nth l i), .int .i64 s] (by rfl) rfl rfl (by (try simp only [List.map_toArray, List.map_cons, List.map_nil]); first | done | rfl) ?_
      with_reducible refine (put_yes (nth l i) s _ HS.out.1 HS.out.2).mono ?_
      rintro e w1 ⟨v1, rfl, ho, hb⟩
      refine ⟨_, rfl, ?_⟩
      obtain ⟨A1, c1, rfl, hcap1, hr1⟩ := Ow_slice ho
      have HR1 := Aside0.mk hr1
      replace HO := Aside0.mk (Kd.R_below HO.out hb)
      replace HP := Aside0.mk ((hb.block _ (blk_lt HP.out)).trans HP.out)
      replace HG := Aside0.mk ((hb.block _ (Nat.lt_of_lt_of_le HF.out.1 HK.out.size)).trans HG.out)
      replace HK := Aside0.mk (HK.out.then hb (Nat.le_trans HF.out.2.2.2 HK.out.size))
      clear ho hb hr1 hcap1
      refine hK_.out _ _ (blk_cell HP.out 0) (fun hHeld => ?_)
      clear hK_ Kq_
      refine norm_ (a' := ?_) ?_ ?_
      rotate_left
      · show Act.put _ (some 17) _ = _
        simp only [Act.put, List.setIfInBounds_toArray, List.set_cons_zero, List.set_cons_succ]
        rfl
      refine one_ (i := 5) (N := some 18) #[true, true, true, true, true, true, false] rfl rfl (one_of HT_.out (by kernel_rfl)) (by decide) (fun Kq_ hK_ => ?_)
      refine appB_step base (by rfl) (.tmp 13) (.tmp 17) rfl rfl (.slice A' y1.length c') y1 (put (nth l i) s) A1 _ c1 rfl rfl HO.out HR1.out (Below.refl base _) (Nat.le_trans HF.out.2.2.2 HK.out.size) (by rw [put_len]; omega) ?_
      intro v2 w2 ho hb hg hat
      have HO1 := Aside0.mk ho
      have hpr := Kd.R_ne HO.out HP.out (by decide)
      have hgr := Kd.R_ne HO.out (HG.out.trans HGL.out) (by decide)
      replace HP := Aside0.mk (blk_grown HP.out hg hpr)
      have hgn := blk_grown (HG.out.trans HGL.out) hg hgr
      replace HG := Aside0.mk (hgn.trans HGL.out.symm)
      replace HK := Aside0.mk (HK.out.then hb (Nat.le_refl _))
      obtain ⟨A2, c2, rfl⟩ := Kd.R_slice ho
      obtain ⟨n2, hn2⟩ : ∃ n2, n2 = (y1 ++ put (nth l i) s).length := ⟨_, rfl⟩
      rw [← hn2] at HO1 ⊢
      clear ho hb hg hat hpr hgr hgn hn2
      refine hK_.out _ _ (blk_cell HP.out 0) (fun hHeld => ?_)
      clear hK_ Kq_
      refine norm_ (a' := ?_) ?_ ?_
      rotate_left
      · show Act.put _ (some 18) _ = _
        simp only [Act.put, List.setIfInBounds_toArray, List.set_cons_zero, List.set_cons_succ]
        rfl
      refine last_ (i := 6) (N := none) #[true, true, true, true, true, true, true] rfl rfl (one_of HT_.out (by kernel_rfl)) (by decide) (fun Kq_ hK_ => ?_)
      have z0 := blk_frozen HP.out 0
      have zc := blk_cell HP.out 0
      refine skip_ (w1 := ?_) (by rfl) rfl ?_ ?_
      rotate_left
      · go_simp
        first | done | rfl
      refine hK_.out _ _ ?_
      clear hK_ Kq_
      refine done_ (done_of HT_.out (by kernel_rfl)) ?_
      clear HT_ hHeld
      have HP2 := Aside0.mk (blk_set HP.out 0 (.slice A2 n2 c2))
      have HG2 := Aside0.mk ((Below.heap_setCell w2 ⟨p, 0, none⟩ (.slice A2 n2 c2) gl HF.out.2.1).trans HG.out)
      have HK2 := Aside0.mk (HK.out.set_ 0 (.slice A2 n2 c2))
      have HPN := Aside0.mk (Kd.R_ne HO1.out HP.out (by decide))
      go_wp2
      go_roundg (gk - 1)
      case measure => omega
      case rel =>
        refine ⟨i + 1, _, by go_num, by omega, HP2, ⟨?_⟩, HK2, HG2⟩
        rw [puts_snoc hlt, ← List.append_assoc, ← HY1.out]
        exact R_set_far' HO1.out HPN.out
    · have HT := Aside0.mk (show l.take i = l from List.take_of_length_le (by omega))
      go_wp2
      go_end0
      exact ⟨rfl, _, HP.out, HT.out ▸ HO.out, HK.out⟩
theorem KpB.cell {base p g j : Nat} {w W : World} {u : Value} (h : KpB base p w W) (hg : g < base) (hne : g ≠ p) (hc : w.cell? ⟨g, j, none⟩ = some u) : W.cell? ⟨g, j, none⟩ = some u := by
  rw [← hc]
  exact World.cell?_of_block (h.block g hg hne)
/-- A row of numbers, new. -/
theorem C_newI (W : World) (xs : List Int) (hm : xs.length ≤ 9223372036854775807) : Kd.C (Kd.int .i64) (W.alloc (.cells (xs.map (Value.int .i64)).toArray 3)) (some ⟨W.heap.size, 0, none⟩) xs.length xs := by
  refine ⟨rfl, hm, fun _ => ⟨_, rfl, fun j p hj => ⟨[.int .i64 p], rfl, rfl, fun i u hu => ?_⟩⟩⟩
  have hh : (W.alloc (.cells (xs.map (Value.int .i64)).toArray 3)).heap[W.heap.size]? = some (.cells (xs.map (Value.int .i64)).toArray 3 (0, 0)) := blk_new W _
  rw [add_plain, blk_cell hh]
  rcases i with _ | i
  · simp at hu
    subst hu
    simp only [List.getElem?_toArray, List.getElem?_map]
    show Option.map _ (xs[j * 1 + 0]?) = _
    rw [Nat.mul_one, Nat.add_zero, hj]
    rfl
  · simp at hu
theorem encput1 (s : Nat) (sI : Int) (hsI : sI = (s : Int)) (a : Int) (p base : Nat) (v : Value) (y : List Int) (W : World) (hl : 0 ≤ a ∧ a < 2 ^ 63) (hs : 1 ≤ s ∧ s ≤ 8) (hy : y.length ≤ 1000000) (hp : W.heap[p]? = some (.cells #[v] 28 (0, 0))) (ho : OwB W base v y) (hpb : p < base) (hbase : base ≤ W.heap.size) :
    Calls Try.prog 35 #[.int .i64 sI, .slice (some ⟨W.heap.size, 0, none⟩) 1 1, .pointer (some ⟨p, 0, none⟩)] (W.alloc (.cells #[.int .i64 a] 3)) fun e w' => e = .returned (.tuple #[]) ∧ ∃ v', w'.heap[p]? = some (.cells #[v'] 28 (0, 0)) ∧ OwB w' base v' (y ++ put a s) ∧ KpB base p W w' := by
  subst hsI
  have hb := below_alloc (Below.refl W.heap.size W) (.cells #[.int .i64 a] 3)
  refine (encput_any s W.heap.size 1 [a] p base v y _ (C_newI W [a] (by simp)) (by intro z hz; simp only [List.mem_cons, List.not_mem_nil, or_false] at hz; omega) (by simp) hs hy _ (blk_new W _) ((hb.block _ (blk_lt hp)).trans hp) (Kd.R_below ho hb) hpb (Nat.le_trans hbase hb.size)).mono ?_
  rintro e w' ⟨rfl, v', h1, h2, h3⟩
  exact ⟨rfl, v', h1, by simpa [puts] using h2, ((KpB.refl base p W).then hb hbase).trans h3⟩
theorem encput2 (s : Nat) (sI : Int) (hsI : sI = (s : Int)) (a b : Int) (p base : Nat) (v : Value) (y : List Int) (W : World) (hl : (0 ≤ a ∧ a < 2 ^ 63) ∧ 0 ≤ b ∧ b < 2 ^ 63) (hs : 1 ≤ s ∧ s ≤ 8) (hy : y.length ≤ 1000000) (hp : W.heap[p]? = some (.cells #[v] 28 (0, 0))) (ho : OwB W base v y) (hpb : p < base) (hbase : base ≤ W.heap.size) :
    Calls Try.prog 35 #[.int .i64 sI, .slice (some ⟨W.heap.size, 0, none⟩) 2 2, .pointer (some ⟨p, 0, none⟩)] (W.alloc (.cells #[.int .i64 a, .int .i64 b] 3)) fun e w' => e = .returned (.tuple #[]) ∧ ∃ v', w'.heap[p]? = some (.cells #[v'] 28 (0, 0)) ∧ OwB w' base v' (y ++ (put a s ++ put b s)) ∧ KpB base p W w' := by
  subst hsI
  have hb := below_alloc (Below.refl W.heap.size W) (.cells #[.int .i64 a, .int .i64 b] 3)
  refine (encput_any s W.heap.size 2 [a, b] p base v y _ (C_newI W [a, b] (by simp)) (by intro z hz; simp only [List.mem_cons, List.not_mem_nil, or_false] at hz; omega) (by simp) hs hy _ (blk_new W _) ((hb.block _ (blk_lt hp)).trans hp) (Kd.R_below ho hb) hpb (Nat.le_trans hbase hb.size)).mono ?_
  rintro e w' ⟨rfl, v', h1, h2, h3⟩
  exact ⟨rfl, v', h1, by simpa [puts] using h2, ((KpB.refl base p W).then hb hbase).trans h3⟩
theorem encput3 (s : Nat) (sI : Int) (hsI : sI = (s : Int)) (a b d : Int) (p base : Nat) (v : Value) (y : List Int) (W : World) (hl : (0 ≤ a ∧ a < 2 ^ 63) ∧ (0 ≤ b ∧ b < 2 ^ 63) ∧ 0 ≤ d ∧ d < 2 ^ 63) (hs : 1 ≤ s ∧ s ≤ 8) (hy : y.length ≤ 1000000) (hp : W.heap[p]? = some (.cells #[v] 28 (0, 0))) (ho : OwB W base v y) (hpb : p < base) (hbase : base ≤ W.heap.size) :
    Calls Try.prog 35 #[.int .i64 sI, .slice (some ⟨W.heap.size, 0, none⟩) 3 3, .pointer (some ⟨p, 0, none⟩)] (W.alloc (.cells #[.int .i64 a, .int .i64 b, .int .i64 d] 3)) fun e w' => e = .returned (.tuple #[]) ∧ ∃ v', w'.heap[p]? = some (.cells #[v'] 28 (0, 0)) ∧ OwB w' base v' (y ++ (put a s ++ (put b s ++ put d s))) ∧ KpB base p W w' := by
  subst hsI
  have hb := below_alloc (Below.refl W.heap.size W) (.cells #[.int .i64 a, .int .i64 b, .int .i64 d] 3)
  refine (encput_any s W.heap.size 3 [a, b, d] p base v y _ (C_newI W [a, b, d] (by simp)) (by intro z hz; simp only [List.mem_cons, List.not_mem_nil, or_false] at hz; omega) (by simp) hs hy _ (blk_new W _) ((hb.block _ (blk_lt hp)).trans hp) (Kd.R_below ho hb) hpb (Nat.le_trans hbase hb.size)).mono ?_
  rintro e w' ⟨rfl, v', h1, h2, h3⟩
  exact ⟨rfl, v', h1, by simpa [puts] using h2, ((KpB.refl base p W).then hb hbase).trans h3⟩
end Go.Proofs.Ytghcnipehgjegaa.Cell
