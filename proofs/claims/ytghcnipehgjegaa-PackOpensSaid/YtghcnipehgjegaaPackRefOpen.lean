/- What erewhileref13.Open answers, and Same of what it tells; PackOpens answers true for all bytes. Conditions stand in each statement. -/
import Derived.Test.YtghcnipehgjegaaPackAwake
import Derived.Test.YtghcnipehgjegaaPackOpen
import Derived.Test.YtghcnipehgjegaaCellRefDecAny
namespace Go.Proofs.Ytghcnipehgjegaa.Cell
open Go.RowKit Go.Proofs.YtghcnipehgjegaaW.PrintWords Go.Proofs.YtghcnipehgjegaaW.PrintLast Go.Proofs.YtghcnipehgjegaaW.PrintMore Go.Proofs.Ytghcnipehgjegaa.Kit Go.Proofs.Ytghcnipehgjegaa.Plain Go.Proofs.Ytghcnipehgjegaa.Wire
set_option linter.unusedVariables false
set_option linter.unusedSimpArgs false
/-- A cell whose body stands in an elder world. -/
def celE (w0 : World) : Kd Cel where
  sz := 11
  E := []
  K := fun _ x cs => ∃ A c, cs = (celA x A c).toList ∧ RdN w0 A x.body.length x.body
  M := fun _ _ _ x cs => ∃ A c, cs = (celA x A c).toList ∧ RdN w0 A x.body.length x.body
  K_len := by
    rintro w x cs ⟨A, c, rfl, _⟩
    rfl
  K_one := by
    rintro w x cs ⟨A, c, rfl, _⟩ u hu
    simp only [celA, List.mem_cons, List.not_mem_nil, or_false] at hu
    rcases hu with rfl | rfl | rfl | rfl | rfl | rfl | rfl | rfl | rfl | rfl | rfl <;> rfl
  K_below := fun _ h => h
  K_of_M := fun h => h
  M_mono := fun _ h => h
  M_bound := fun h => h
  M_move := fun _ h => h
  M_lower := fun _ h => h
theorem cel_rowE {w0 W : World} {B : Option Addr} {n : Nat} {l : List Cel} (h : Kd.C (celE w0) W B n l) (i : Nat) (hi : i < n) : ∃ ad A c, B = some ad ∧ CelIn W (ad.add (i * 11)) (gdC l i) A c ∧ RdN w0 A (gdC l i).body.length (gdC l i).body := by
  obtain ⟨ad, cs, e, _, hK, hc⟩ := Kd.C_get h cel0 (i : Int) (by omega) (by omega)
  obtain ⟨A, c, rfl, hC⟩ := hK
  have hg : ∀ j u, (celA (gdC l i) A c).toList[j]? = some u → W.cell? (ad.add (i * 11 + j)) = some u := hc
  refine ⟨ad, A, c, e, ⟨hg 0 _ rfl, ?_, ?_, ?_, ?_, ?_, ?_, ?_, ?_, ?_, ?_⟩, hC⟩ <;> rw [← add_plus]
  · exact hg 1 _ rfl
  · exact hg 2 _ rfl
  · exact hg 3 _ rfl
  · exact hg 4 _ rfl
  · exact hg 5 _ rfl
  · exact hg 6 _ rfl
  · exact hg 7 _ rfl
  · exact hg 8 _ rfl
  · exact hg 9 _ rfl
  · exact hg 10 _ rfl
theorem sameB_selfE (x : Cel) : sameB x x = true := decide_eq_true rfl
def tabSe6 : Bool × List (List Nat × List Nat) := (true, [([], []), ([], []), ([0, 1], [0, 1]), ([2], [2]), ([], []), ([], []), ([4, 5], [4, 5]), ([6], [6]), ([3, 7], [3, 7]), ([8], [8])])
theorem tabSe6_ok : rtab .any (opsOf Try.f18 6) = tabSe6 := by kernel_rfl
set_option maxHeartbeats 3200000 in
set_option maxRecDepth 100000 in
theorem same13_gen (B0 B1 : Option Addr) (n c0 c1 : Nat) (l : List Cel) (w : World) (hn : l.length = n) (hm : n ≤ 1000) (h1 : ∀ i, i < n → ∃ ad A c, B0 = some ad ∧ CelIn w (ad.add (i * 11)) (gdC l i) A c ∧ RdN w A (gdC l i).body.length (gdC l i).body) (h2 : ∀ i, i < n → ∃ ad A c, B1 = some ad ∧ CelIn w (ad.add (i * 11)) (gdC l i) A c ∧ RdN w A (gdC l i).body.length (gdC l i).body) (hy : ∀ x ∈ l, Byt x.body) :
    Calls Try.prog 18 #[.slice B0 n c0, .slice B1 n c1] w fun e w' => e = .returned (.bool true) ∧ Below w.heap.size w w' := by
  subst hn
  have H1 := Aside0.mk h1
  have H2 := Aside0.mk h2
  have HY := Aside0.mk hy
  clear h1 h2 hy
  have HB := Aside0.mk (Below.refl w.heap.size w)
  go_enter Try.func18, Try.ntmps18
  go_wp2
  go_loopg [5] l.length (fun gk v w' => ∃ i : Nat, v = .int .i64 (i : Int) ∧ i + gk = l.length ∧ Aside0 (Below w.heap.size w w'))
  case atStart => exact ⟨0, rfl, by omega, HB⟩
  case round =>
    clear HB
    obtain ⟨i, rfl, hi, HB⟩ := hrel
    by_cases hlt : i < l.length
    · obtain ⟨a1, A1, k1, rfl, hcel1, hra1⟩ := H1.out i hlt
      obtain ⟨a2, A2, k2, rfl, hcel2, hra2⟩ := H2.out i hlt
      obtain ⟨x, hx⟩ : ∃ x, x = gdC l i := ⟨_, rfl⟩
      have hxy : Byt x.body := hx ▸ HY.out _ (gdC_mem hlt)
      rw [← hx] at hcel1 hra1 hcel2 hra2
      have HC1 := Aside0.mk hcel1
      have HC2 := Aside0.mk hcel2
      have HR1 := Aside0.mk hra1
      have HR2 := Aside0.mk hra2
      have HXY := Aside0.mk hxy
      have hi0 : (0 : Int) ≤ (i : Int) := by omega
      have hi1 : (i : Int) < (l.length : Int) := by omega
      clear hcel1 hcel2 hra1 hra2 hxy hx
      go_wp2_with (fail)
      refine start_ (n := 10) (S := fun w' => CelIn w' (a1.add (i * 11)) x A1 k1 ∧ CelIn w' (a2.add (i * 11)) x A2 k2) (ds := []) #[false, false, false, false, false, false, false, false, false, false] (by kernel_rfl) rfl rfl ⟨CelIn.below HC1.out (below_drew HB.out), CelIn.below HC2.out (below_drew HB.out)⟩ (fun hHeld => ?_); refine with_tab tabSe6_ok (fun HT_ => ?_)
      have hb : Below wr.heap.size wr wr.drew := below_drew (Below.refl _ _)
      replace HB := Aside0.mk (HB.out.trans (hb.mono HB.out.size))
      clear hb
      refine pure_ (i := 0) (N := some 17) (v := ?_) (a' := ?_) #[true, false, false, false, false, false, false, false, false, false] rfl rfl (any_of HT_.out (by kernel_rfl)) (fun _ _ _ h => h) (Or.inl ⟨by rfl, ?_⟩) ?_ ?_
      rotate_left
      · intro w'
        go_simp
        with_reducible rfl
      rotate_left
      · simp only [Act.put, List.setIfInBounds_toArray, List.set_cons_zero, List.set_cons_succ]
        rfl
      refine pure_ (i := 1) (N := some 18) (v := ?_) (a' := ?_) #[true, true, false, false, false, false, false, false, false, false] rfl rfl (any_of HT_.out (by kernel_rfl)) (fun _ _ _ h => h) (Or.inl ⟨by rfl, ?_⟩) ?_ ?_
      rotate_left
      · intro w'
        go_simp
        with_reducible rfl
      rotate_left
      · simp only [Act.put, List.setIfInBounds_toArray, List.set_cons_zero, List.set_cons_succ]
        rfl
      refine pure_ (i := 2) (N := some 19) (v := ?_) (a' := ?_) #[true, true, true, false, false, false, false, false, false, false] rfl rfl (any_of HT_.out (by kernel_rfl)) (fun _ _ _ h => h) (Or.inl ⟨by rfl, ?_⟩) ?_ ?_
      rotate_left
      · intro w'
        go_simp
        with_reducible rfl
      rotate_left
      · simp only [Act.put, List.setIfInBounds_toArray, List.set_cons_zero, List.set_cons_succ]
        rfl
      refine take_ (i := 3) (N := some 20) (v := ?_) (a' := ?_) #[true, true, true, true, false, false, false, false, false, false] rfl rfl (take_of HT_.out (by kernel_rfl)) (fun _ _ _ h => h) (Or.inl ⟨by rfl, ?_⟩) hHeld ?_ ?_
      rotate_left
      · intro w' hw'
        obtain ⟨⟨s0, s1, s2, s3, s4, s5, s6, s7, s8, s9, s10⟩, ⟨u0, u1, u2, u3, u4, u5, u6, u7, u8, u9, u10⟩⟩ := hw'
        go_simp
        with_reducible rfl
      rotate_left
      · simp only [Act.put, List.setIfInBounds_toArray, List.set_cons_zero, List.set_cons_succ]
        rfl
      refine pure_ (i := 4) (N := some 21) (v := ?_) (a' := ?_) #[true, true, true, true, true, false, false, false, false, false] rfl rfl (any_of HT_.out (by kernel_rfl)) (fun _ _ _ h => h) (Or.inl ⟨by rfl, ?_⟩) ?_ ?_
      rotate_left
      · intro w'
        go_simp
        with_reducible rfl
      rotate_left
      · simp only [Act.put, List.setIfInBounds_toArray, List.set_cons_zero, List.set_cons_succ]
        rfl
      refine pure_ (i := 5) (N := some 22) (v := ?_) (a' := ?_) #[true, true, true, true, true, true, false, false, false, false] rfl rfl (any_of HT_.out (by kernel_rfl)) (fun _ _ _ h => h) (Or.inl ⟨by rfl, ?_⟩) ?_ ?_
      rotate_left
      · intro w'
        go_simp
        with_reducible rfl
      rotate_left
      · simp only [Act.put, List.setIfInBounds_toArray, List.set_cons_zero, List.set_cons_succ]
        rfl
      refine pure_ (i := 6) (N := some 23) (v := ?_) (a' := ?_) #[true, true, true, true, true, true, true, false, false, false] rfl rfl (any_of HT_.out (by kernel_rfl)) (fun _ _ _ h => h) (Or.inl ⟨by rfl, ?_⟩) ?_ ?_
      rotate_left
      · intro w'
        go_simp
        with_reducible rfl
      rotate_left
      · simp only [Act.put, List.setIfInBounds_toArray, List.set_cons_zero, List.set_cons_succ]
        rfl
      refine take_ (i := 7) (N := some 24) (v := ?_) (a' := ?_) #[true, true, true, true, true, true, true, true, false, false] rfl rfl (take_of HT_.out (by kernel_rfl)) (fun _ _ _ h => h) (Or.inl ⟨by rfl, ?_⟩) hHeld ?_ ?_
      rotate_left
      · intro w' hw'
        obtain ⟨⟨s0, s1, s2, s3, s4, s5, s6, s7, s8, s9, s10⟩, ⟨u0, u1, u2, u3, u4, u5, u6, u7, u8, u9, u10⟩⟩ := hw'
        go_simp
        with_reducible rfl
      rotate_left
      · simp only [Act.put, List.setIfInBounds_toArray, List.set_cons_zero, List.set_cons_succ]
        rfl
      refine one_ (i := 8) (N := some 25) #[true, true, true, true, true, true, true, true, true, false] rfl rfl (one_of HT_.out (by kernel_rfl)) (by decide) (fun Kq_ hK_ => ?_)
      refine goes_ Try.func24 (by kernel_rfl) rfl #[.agg (celA x A1 k1), .agg (celA x A2 k2)] (by rfl) rfl rfl (by (try simp only [List.map_toArray, List.map_cons, List.map_nil]); first | done | rfl) ?_
      with_reducible refine (refsame_any x x A1 A2 k1 k2 _ (Kd.C_below HR1.out HB.out) (Kd.C_below HR2.out HB.out) HXY.out HXY.out).mono ?_
      rintro e w9 ⟨rfl, hb⟩
      refine ⟨_, rfl, ?_⟩
      rw [sameB_selfE]
      replace HB := Aside0.mk (HB.out.trans (hb.mono HB.out.size))
      clear hb
      refine hK_.out _ _ ⟨CelIn.below HC1.out HB.out, CelIn.below HC2.out HB.out⟩ (fun hHeld => ?_)
      clear hK_ Kq_
      refine norm_ (a' := ?_) ?_ ?_
      rotate_left
      · show Act.put _ (some 25) _ = _
        simp only [Act.put, List.setIfInBounds_toArray, List.set_cons_zero, List.set_cons_succ]
        rfl
      refine pure_ (i := 9) (N := some 26) (v := ?_) (a' := ?_) #[true, true, true, true, true, true, true, true, true, true] rfl rfl (any_of HT_.out (by kernel_rfl)) (fun _ _ _ h => h) (Or.inl ⟨by rfl, ?_⟩) ?_ ?_
      rotate_left
      · intro w'
        go_simp
        with_reducible rfl
      rotate_left
      · simp only [Act.put, List.setIfInBounds_toArray, List.set_cons_zero, List.set_cons_succ]
        rfl
      refine done_ (done_of HT_.out (by kernel_rfl)) ?_
      clear HT_ hHeld
      go_wp2
      go_roundg (gk - 1)
      case measure => omega
      case rel => exact ⟨i + 1, by go_num, by omega, HB⟩
    · go_wp2
      go_ret
      exact ⟨rfl, HB.out⟩
theorem refdec_vN (A : Option Addr) (n c : Nat) (b : List Int) (v w : World) (hv : Below v.heap.size v w) (hr : RdN v A n b) (hc : n ≤ c) (hy : Byt b) (hl : n ≤ 1000) :
    Calls Try.prog 28 #[.slice A n c] w fun e w' => RDecdV v w w' e (rdecS b) := by
  obtain rfl := C_len hr
  exact refdec_v A c b v w hv hr hc hy hl
/-- What the reference's opening leaves. -/
def ROpend (w w' : World) (e : Ending) (r : Option (List Cel)) : Prop :=
  ((∀ l, r = some l → ∃ v, e = .returned (.tuple #[v, .bool true]) ∧ Kd.R (celE w) 30 w' w.heap.size (fun _ => True) v l) ∧ (r = none → e = .returned (.tuple #[.slice none 0 0, .bool false]))) ∧ Below w.heap.size w w'
set_option maxHeartbeats 3200000 in
set_option maxRecDepth 100000 in
theorem refopen_any (A : Option Addr) (n c : Nat) (b : List Int) (w : World) (hr : RdN w A n b) (hc : n ≤ c) (hy : Byt b) :
    Calls Try.prog 17 #[.slice A n c] w fun e w' => ROpend w w' e (openR b) := by
  obtain rfl := C_len hr
  have hmx := C_max hr
  by_cases hlen : 103 < b.length
  · have g0 : (b.length : Int) > 103 := by omega
    have HE := Aside0.mk (show openR b = none by rw [openR, if_pos hlen])
    clear hlen
    go_enter Try.func17, Try.ntmps17
    go_wp2
    go_ret2
    rw [HE.out]
    exact ⟨⟨fun l h => (by cases h), fun _ => rfl⟩, Below.refl _ _⟩
  have g0 : ¬ (b.length : Int) > 103 := by omega
  have HE := Aside0.mk (show openR b = openS (b.length + 1) b by rw [openR, if_neg hlen])
  have HL := Aside0.mk (show b.length ≤ 103 by omega)
  have HR := Aside0.mk (And.intro hr (And.intro hc hy))
  clear hr hc hy hlen
  have HB := Aside0.mk (Below.refl w.heap.size w)
  go_enter Try.func17, Try.ntmps17
  go_wp2
  go_loopg [0, 4] b.length (fun gk v0 v4 w' => ∃ (A' : Option Addr) (c' : Nat) (r : List Int) (acc : List Cel) (f : Nat), v0 = .slice A' r.length c' ∧ gk = r.length ∧ acc.length + r.length ≤ b.length ∧ Aside0 (RdN w A' r.length r ∧ r.length ≤ c' ∧ Byt r ∧ r.length < f) ∧
    Aside0 (openS (b.length + 1) b = (openS f r).map (fun l => acc ++ l)) ∧ Aside0 (Kd.R (celE w) 30 w' w.heap.size (fun _ => True) v4 acc) ∧ Aside0 (Below w.heap.size w w'))
  case atStart => exact ⟨A, c, b, [], b.length + 1, rfl, rfl, by simp, ⟨HR.out.1, HR.out.2.1, HR.out.2.2, by omega⟩, ⟨by simp⟩, ⟨Kd.R_nil _ _ _ _ _⟩, HB⟩
  case round =>
    clear HB HR g0
    obtain ⟨A', c', r, acc, f, rfl, rfl, hacc, HR, HF, HO, HB⟩ := hrel
    obtain ⟨rl, hrl⟩ : ∃ n, n = r.length := ⟨_, rfl⟩
    rw [← hrl] at hacc HR ⊢
    have HRL := Aside0.mk hrl
    have hb103 := HL.out
    by_cases h0 : 0 < rl
    · have g1 : (rl : Int) > 0 := by omega
      obtain ⟨s, hs⟩ : ∃ s, s = decS r := ⟨_, rfl⟩
      obtain ⟨x, rest, er⟩ := s
      obtain ⟨f', hf'⟩ : ∃ f', f = f' + 1 := ⟨f - 1, by have := HR.out.2.2.2; omega⟩
      have HFF := Aside0.mk hf'
      clear hf'
      by_cases he : er = 0
      · subst he
        obtain ⟨hrx, hwx, hre⟩ := dec_inv HR.out.2.2.1 hs.symm
        obtain ⟨hrest, htot⟩ := dec_rest hs.symm
        have hxl := (encS_len x hwx hrx).2.2
        have hll := congrArg List.length hre
        rw [List.length_append, ← hrl] at hll
        obtain ⟨tt, htt⟩ : ∃ t, t = totalS r := ⟨_, rfl⟩
        rw [← htt] at hrest htot
        rw [← hrl] at htot
        have HST := Aside0.mk (show openS f r = (openS f' rest).map (fun l => x :: l) by
          rw [HFF.out, openS, if_neg (by omega), if_pos (by rw [← hs]), ← hs])
        have HYR := Aside0.mk (show Byt rest from fun z hz => HR.out.2.2.1 z (by rw [← hre]; exact List.mem_append_right _ hz))
        have hlr : rl - tt = rest.length := by rw [hrest, List.length_drop, ← hrl]
        have hlt : rl - tt < rl := by omega
        have HRD := Aside0.mk (show rdecS r = (x, (tt : Int), 0) by rw [rdecS, ← hs, htt]; rfl)
        obtain ⟨A4, cf, hr4⟩ := cutFrom HR.out.1 HR.out.2.1 tt htot .i64
        rw [← hrest] at hr4
        have HR4 := Aside0.mk hr4
        have HK4 := Aside0.mk (show rl - tt ≤ c' - tt by have := HR.out.2.1; omega)
        have HLR := Aside0.mk hlr
        clear hs hrx hwx hre hxl hll hlr hrl hrest htot htt hr4
        go_upto_region 6 with (go_at_call 28; go_must (refine (refdec_vN A' rl c' r w wr HB.out HR.out.1 HR.out.2.1 HR.out.2.2.1 (by omega)).mono ?_; rintro e y6 hd; rw [HRD.out] at hd; obtain ⟨⟨A1, k1, rfl, hb1⟩, hb⟩ := hd; simp only at hb1 ⊢; have HB1 := Aside0.mk hb1; replace HO := Aside0.mk (Kd.R_below HO.out hb); replace HB := Aside0.mk (HB.out.trans (hb.mono HB.out.size)); clear hb hb1))
        obtain ⟨y7, hy7⟩ : ∃ w3, w3 = y6.alloc (.cells (celA x A1 k1) 30) := ⟨_, rfl⟩
        rw [← hy7]
        have hb : Below y6.heap.size y6 y7 := by rw [hy7]; exact below_alloc (Below.refl _ _) _
        have hD : y7.heap[y6.heap.size]? = some (.cells (celA x A1 k1) 30 (0, 0)) := by rw [hy7]; exact blk_new _ _
        replace HO := Aside0.mk (Kd.R_below HO.out hb)
        replace HB := Aside0.mk (HB.out.trans (hb.mono HB.out.size));
        clear hy7 hb
        obtain ⟨c0, c1, c2, c3, c4, c5, c6, c7, c8, c9⟩ := cel_at (x := x) (A := A1) (c := k1) hD; have c10 : y7.cell? ⟨y6.heap.size, 10, none⟩ = some (.slice A1 x.body.length k1) := blk_cell hD 10
        clear hD
        go_wp2_with ((with_reducible refine gate_builtin (b := .append) (xs := #[.tmp 22, .tmp 24]) rfl ?_); at_builtin; go_must (refine Kd.R_append (celE w) (w0 := w) w.heap.size rfl (.tmp 22) (.tmp 24) 22 30 (.agg (celA cel0 none 0)) 104 rfl Try.underlying22 infoCelO rfl (show 0 < 11 by decide) (by omega) _ acc x (celA x A1 k1).toList (fun _ => True) (fun _ => False) rfl rfl ⟨A1, k1, rfl, HB1.out⟩ (fun _ hk => hk.elim) (fun _ _ => trivial) HO.out HB.out HB.out.size (by omega) ?_; intro v32 w32 ho hb hg hat; clear HO HB; have HO := Aside0.mk ho; have HB := Aside0.mk hb; clear ho hb hg hat))
        go_roundg (rl - tt)
        case measure => have := HRL.out; omega
        case rel => exact ⟨A4, c' - tt, rest, acc ++ [x], f', by rw [← HLR.out], by rw [← HLR.out], by rw [List.length_append, List.length_singleton, ← HLR.out]; omega, ⟨by rw [← HLR.out]; exact HR4.out, by rw [← HLR.out]; exact HK4.out, HYR.out, by have := HR.out.2.2.2; have := HFF.out; rw [← HLR.out]; omega⟩, ⟨by rw [HF.out, HST.out, Option.map_map]; congr 1; funext l; simp⟩, HO, HB⟩
      · have HST := Aside0.mk (show openS f r = none by rw [HFF.out, openS, if_neg (by omega), if_neg (by rw [← hs]; exact he)])
        have HRD := Aside0.mk (show rdecS r = (x, 0, er) by rw [rdecS, ← hs]; simp [he])
        obtain ⟨rfl, rfl, hee⟩ := dec_none hs.symm he
        have g2 : (er == 0) = false := beq_eq_false_iff_ne.2 he
        have g3 : (er != 0) = true := bne_iff_ne.2 he
        clear hs he hee hrl
        go_wp2_with (go_at_call 28; go_must (refine (refdec_vN A' rl c' r w wr HB.out HR.out.1 HR.out.2.1 HR.out.2.2.1 (by omega)).mono ?_; rintro e y6 hd; rw [HRD.out] at hd; obtain ⟨⟨A1, k1, rfl, _⟩, hb⟩ := hd; simp only [cel0, List.length_nil]; replace HB := Aside0.mk (HB.out.trans (hb.mono HB.out.size)); clear hb))
        go_ret2
        rw [HE.out, HF.out, HST.out]
        exact ⟨⟨fun l h => (by cases h), fun _ => rfl⟩, HB.out.alloc HB.out.size _⟩
    · have HST := Aside0.mk (show openS f r = some [] by
        obtain ⟨f', hf'⟩ : ∃ f', f = f' + 1 := ⟨f - 1, by have := HR.out.2.2.2; omega⟩
        rw [hf', openS, if_pos (by omega)])
      have g1 : ¬ (rl : Int) > 0 := by omega
      clear h0 hrl
      go_wp2
      go_ret2
      rw [HE.out, HF.out, HST.out]
      exact ⟨⟨fun l h => (by simp only [Option.map_some, Option.some.injEq, List.append_nil] at h; subst h; exact ⟨_, rfl, HO.out⟩), fun h => (by cases h)⟩, HB.out⟩
theorem openS_len : ∀ (f : Nat) (b : List Int) (l : List Cel), Byt b → openS f b = some l → l.length ≤ b.length ∧ ∀ x ∈ l, Byt x.body
  | 0, _, _, _, h => by cases h
  | f + 1, b, l, hy, h => by
    rw [openS] at h
    by_cases h0 : b.length = 0
    · rw [if_pos h0] at h
      simp only [Option.some.injEq] at h
      subst h
      exact ⟨by simp, fun x hx => by cases hx⟩
    · rw [if_neg h0] at h
      by_cases h1 : (decS b).2.2 = 0
      · rw [if_pos h1] at h
        have hd : decS b = ((decS b).1, (decS b).2.1, 0) := by rw [← h1]
        obtain ⟨hr, hw, he⟩ := dec_inv hy hd
        have hl := (encS_len _ hw hr).2.2
        have hll := congrArg List.length he
        rw [List.length_append] at hll
        have hyr : Byt (decS b).2.1 := fun z hz => hy z (by rw [← he]; exact List.mem_append_right _ hz)
        obtain ⟨m, hm, rfl⟩ := Option.map_eq_some_iff.1 h
        obtain ⟨i1, i2⟩ := openS_len f _ m hyr hm
        refine ⟨by rw [List.length_cons]; omega, fun x hx => ?_⟩
        rcases List.mem_cons.1 hx with rfl | hx
        · exact hw.2.2
        · exact i2 x hx
      · rw [if_neg h1] at h
        cases h
theorem openR_len {b : List Int} {l : List Cel} (hy : Byt b) (h : openR b = some l) : l.length ≤ 103 ∧ ∀ x ∈ l, Byt x.body := by
  unfold openR at h
  split at h
  · cases h
  · obtain ⟨h1, h2⟩ := openS_len _ _ _ hy h
    exact ⟨by omega, h2⟩
set_option maxHeartbeats 3200000 in
set_option maxRecDepth 100000 in
theorem opens_law (A : Option Addr) (c : Nat) (b : List Int) (w : World) (hr : RdB w A b) (hc : b.length ≤ c) (hy : Byt b) :
    Calls Try.prog 5 #[.slice A b.length c] w fun e w' => e = .returned (.bool true) ∧ Below w.heap.size w w' := by
  have hmx := C_max hr
  have HR := Aside0.mk hr
  have HC := Aside0.mk hc
  have HY := Aside0.mk hy
  clear hr hc hy
  have HB := Aside0.mk (Below.refl w.heap.size w)
  by_cases hlen : 200 < b.length
  · have g0 : decide (200 < (b.length : Int)) = true := decide_eq_true (by omega)
    go_enter Try.func5, Try.ntmps5
    go_wp2_with (go_at_call 9; go_must (refine (awake13_any _).mono ?_; rintro e w1 ⟨rfl, hb⟩; clear HB; have HB := Aside0.mk hb; clear hb))
    go_ret
    exact ⟨rfl, HB.out⟩
  have g0 : decide (200 < (b.length : Int)) = false := decide_eq_false (by omega)
  clear hlen
  obtain ⟨o, ho⟩ : ∃ o, o = openR b := ⟨_, rfl⟩
  have HOO := Aside0.mk ho.symm
  cases o with
  | none =>
    clear ho
    go_enter Try.func5, Try.ntmps5
    go_wp2_with (first
      | (go_at_call 9; go_must (refine (awake13_any _).mono ?_; rintro e w1 ⟨rfl, hb⟩; clear HB; have HB := Aside0.mk hb; clear hb))
      | (go_at_call 16; go_must (refine (open_any A b.length c b _ (Kd.C_below HR.out HB.out) HC.out HY.out).mono ?_; rintro e y3 ⟨⟨_, h2⟩, hb⟩; obtain rfl := h2 HOO.out; replace HB := Aside0.mk (HB.out.trans (hb.mono HB.out.size)); clear hb h2))
      | (go_at_call 17; go_must (refine (refopen_any A b.length c b _ (Kd.C_below HR.out HB.out) HC.out HY.out).mono ?_; rintro e y4 ⟨⟨_, h2⟩, hb⟩; obtain rfl := h2 HOO.out; replace HB := Aside0.mk (HB.out.trans (hb.mono HB.out.size)); clear hb h2))
      | (go_at_call 18; go_must (refine (same13_gen none none 0 0 0 [] _ rfl (by decide) (fun i hi => absurd hi (Nat.not_lt_zero _)) (fun i hi => absurd hi (Nat.not_lt_zero _)) (fun x hx => absurd hx List.not_mem_nil)).mono ?_; rintro e y5 ⟨rfl, hb⟩; replace HB := Aside0.mk (HB.out.trans (hb.mono HB.out.size)); clear hb)))
    go_ret
    exact ⟨rfl, HB.out⟩
  | some l =>
    obtain ⟨hl103, hly⟩ := openR_len HY.out ho.symm
    have HLY := Aside0.mk hly
    have HL := Aside0.mk hl103
    clear ho hly hl103
    obtain ⟨nl, hnl⟩ : ∃ n, n = l.length := ⟨_, rfl⟩
    have HNL := Aside0.mk hnl
    clear hnl
    go_enter Try.func5, Try.ntmps5
    go_wp2_with (first
      | (go_at_call 9; go_must (refine (awake13_any _).mono ?_; rintro e w1 ⟨rfl, hb⟩; clear HB; have HB := Aside0.mk hb; clear hb))
      | (go_at_call 16; go_must (refine (open_any A b.length c b _ (Kd.C_below HR.out HB.out) HC.out HY.out).mono ?_; rintro e y3 ⟨⟨h1, _⟩, hb⟩; obtain ⟨v3, rfl, hc⟩ := h1 _ HOO.out; obtain ⟨A3, c3, rfl⟩ := Kd.R_slice hc; rw [← HNL.out] at hc ⊢; have HC3 := Aside0.mk hc; replace HB := Aside0.mk (HB.out.trans (hb.mono HB.out.size)); clear hb hc h1))
      | (go_at_call 17; go_must (refine (refopen_any A b.length c b _ (Kd.C_below HR.out HB.out) HC.out HY.out).mono ?_; rintro e y4 ⟨⟨h1, _⟩, hb⟩; obtain ⟨v4, rfl, hc⟩ := h1 _ HOO.out; obtain ⟨A4, c4, rfl⟩ := Kd.R_slice hc; rw [← HNL.out] at hc ⊢; have HC4 := Aside0.mk hc; have HB4 := Aside0.mk hb; replace HC3 := Aside0.mk (Kd.R_below HC3.out hb); replace HB := Aside0.mk (HB.out.trans (hb.mono HB.out.size)); clear hb hc h1))
      | (go_at_call 18; go_must (refine (same13_gen A3 A4 nl c3 c4 l _ HNL.out.symm (by have := HNL.out; have := HL.out; omega) (fun i hi => by
          obtain ⟨ad, A, k, e1, h1, _, h2⟩ := cel_row (Kd.R_reads' HC3.out).2.2 i (by rw [← HNL.out]; exact hi)
          exact ⟨ad, A, k, e1, h1, h2⟩) (fun i hi => by
          obtain ⟨ad, A, k, e1, h1, h2⟩ := cel_rowE (Kd.R_reads' HC4.out).2.2 i (by rw [← HNL.out]; exact hi)
          exact ⟨ad, A, k, e1, h1, Kd.C_below h2 HB4.out⟩) HLY.out).mono ?_; rintro e y5 ⟨rfl, hb⟩; replace HB := Aside0.mk (HB.out.trans (hb.mono HB.out.size)); clear hb)))
    go_ret
    exact ⟨rfl, HB.out⟩
end Go.Proofs.Ytghcnipehgjegaa.Cell
