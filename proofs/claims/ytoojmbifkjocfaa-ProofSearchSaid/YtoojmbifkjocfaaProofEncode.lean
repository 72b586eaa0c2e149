/- What proof.Encode answers: the bytes of a certificate. Conditions stand in each statement. -/
import Derived.Test.YtoojmbifkjocfaaProofStep
import Derived.Test.YtoojmbifkjocfaaLk
namespace Go.Proofs.Ytoojmbifkjocfaa.Proof
open Go.RowKit Go.Proofs.YtoojmbifkjocfaaW.PrintWords Go.Proofs.YtoojmbifkjocfaaW.PrintLast Go.Proofs.YtoojmbifkjocfaaW.PrintMore Go.Proofs.Ytoojmbifkjocfaa.Kit Go.Proofs.Ytoojmbifkjocfaa.Plain Go.Proofs.Ytoojmbifkjocfaa.Wire
set_option linter.unusedVariables false
set_option linter.unusedSimpArgs false
theorem looksS_snoc {L : List (Int × Bool)} {k : Nat} (h : k < L.length) : looksS (L.take (k + 1)) = looksS (L.take k) ++ (put (L[k]).1 8 ++ [bitS (L[k]).2]) := by
  rw [List.take_succ_eq_append_getElem h, looksS, List.map_append, List.flatten_append]
  simp only [looksS, lookS, List.map_cons, List.map_nil, List.flatten_cons, List.flatten_nil, List.append_nil]
theorem put_yesI (n sI : Int) (s : Nat) (hs : sI = (s : Int)) (w : World) (h1 : 1 ≤ s) (h8 : s ≤ 8) :
    Calls Try.prog 30 #[.int .u64 n, .int .i64 sI] w fun e w' => ∃ v, e = .returned v ∧ OwB w' w.heap.size v (put n s) ∧ Below w.heap.size w w' := by
  subst hs
  exact put_yes n s w h1 h8
def tabEn3 : Bool × List (List Nat × List Nat) := (true, [([], []), ([0], [0]), ([1], [1]), ([2], [2]), ([], []), ([4], [4]), ([5, 2], [5]), ([3, 6, 6], [3, 6]), ([7, 7, 0, 1, 2, 3, 4, 5, 6, 7], [7])])
theorem tabEn3_ok : rtab .any (opsOf Try.f18 3) = tabEn3 := by kernel_rfl
def tabEn8 : Bool × List (List Nat × List Nat) := (true, [([], []), ([], []), ([1], [1]), ([2], [2]), ([0, 3, 3], [0, 3]), ([], []), ([5], [5]), ([6, 4], [6]), ([7], [7]), ([4, 8, 7], [4, 8]), ([9, 9, 0, 1, 2, 3, 4, 5, 6, 7, 8, 9], [0, 9])])
theorem tabEn8_ok : rtab .any (opsOf Try.f18 8) = tabEn8 := by kernel_rfl
set_option maxHeartbeats 1600000 in
set_option maxRecDepth 100000 in
theorem encodeP_any (m : Int) (ok : Bool) (A4 : Option Addr) (n4 c4 : Nat) (L : List (Int × Bool)) (w : World) (hr4 : Kd.C Lk w A4 n4 L) (hl : n4 ≤ 65535) :
    Calls Try.prog 18 #[.agg #[.int .u64 m, .bool ok, .slice A4 n4 c4]] w fun e w' => (∃ v, e = .returned (.tuple #[v, .int .i64 0]) ∧ OwB w' w.heap.size v (encP m ok L)) ∧ Below w.heap.size w w' := by
  obtain rfl := C_len hr4
  have hmx4 := C_max hr4
  have HR4 := Aside0.mk hr4
  have hnl : ¬ (L.length : Int) > 65535 := by omega
  have e5 : IntKind.u64.wrap (L.length : Int) = (L.length : Int) := wrap_u64_in _ (by omega) (by omega)
  have HLL := Aside0.mk hl
  clear hr4 hl
  go_enter Try.func18, Try.ntmps18
  go_upto_region 3 with (fail)
  obtain ⟨W1, hW1⟩ : ∃ W1, W1 = w.alloc (.cells #[.int .u64 m, .bool ok, .slice A4 L.length c4] 25) := ⟨_, rfl⟩
  rw [← hW1]
  have HB1 := Aside0.mk (show Below w.heap.size w W1 by rw [hW1]; exact below_alloc (Below.refl _ _) _)
  have HX : W1.heap[w.heap.size]? = some (foundObj m ok (.slice A4 L.length c4)) := by rw [hW1]; exact blk_new _ _
  obtain ⟨x0, x1, x2⟩ := found_cells HX
  have HX0 := Aside0.mk x0
  have HX1 := Aside0.mk x1
  have HX2 := Aside0.mk x2
  replace HR4 := Aside0.mk (Kd.C_below HR4.out HB1.out)
  have HB := Aside0.mk (Below.refl W1.heap.size W1)
  clear hW1 HX x0 x1 x2
  refine start_ (n := 9) (S := fun w' => w'.cell? ⟨w.heap.size, 0, none⟩ = some (.int .u64 m) ∧ w'.cell? ⟨w.heap.size, 1, none⟩ = some (.bool ok)) (ds := []) #[false, false, false, false, false, false, false, false, false] (by kernel_rfl) rfl rfl ⟨pw_cell_below (below_drew (Below.refl _ _)) HX0.out, pw_cell_below (below_drew (Below.refl _ _)) HX1.out⟩ (fun hHeld => ?_); refine with_tab tabEn3_ok (fun HT_ => ?_)
  have hb : Below W1.heap.size W1 W1.drew := below_drew (Below.refl _ _)
  replace HB := Aside0.mk (HB.out.trans (hb.mono HB.out.size))
  clear hb
  refine pure_ (i := 0) (N := some 11) (v := ?_) (a' := ?_) #[true, false, false, false, false, false, false, false, false] rfl rfl (any_of HT_.out (by kernel_rfl)) (fun _ _ _ h => h) (Or.inl ⟨by rfl, ?_⟩) ?_ ?_
  rotate_left
  · intro w'
    go_simp
    with_reducible rfl
  rotate_left
  · simp only [Act.put, List.setIfInBounds_toArray, List.set_cons_zero, List.set_cons_succ]
    rfl
  refine take_ (i := 1) (N := some 12) (v := ?_) (a' := ?_) #[true, true, false, false, false, false, false, false, false] rfl rfl (take_of HT_.out (by kernel_rfl)) (fun _ _ _ h => h) (Or.inl ⟨by rfl, ?_⟩) hHeld ?_ ?_
  rotate_left
  · intro w' hw'
    obtain ⟨s0, s1⟩ := hw'
    go_simp
    with_reducible rfl
  rotate_left
  · simp only [Act.put, List.setIfInBounds_toArray, List.set_cons_zero, List.set_cons_succ]
    rfl
  refine pure_ (i := 4) (N := some 15) (v := ?_) (a' := ?_) #[true, true, false, false, true, false, false, false, false] rfl rfl (any_of HT_.out (by kernel_rfl)) (fun _ _ _ h => h) (Or.inl ⟨by rfl, ?_⟩) ?_ ?_
  rotate_left
  · intro w'
    go_simp
    with_reducible rfl
  rotate_left
  · simp only [Act.put, List.setIfInBounds_toArray, List.set_cons_zero, List.set_cons_succ]
    rfl
  refine take_ (i := 5) (N := some 16) (v := ?_) (a' := ?_) #[true, true, false, false, true, true, false, false, false] rfl rfl (take_of HT_.out (by kernel_rfl)) (fun _ _ _ h => h) (Or.inl ⟨by rfl, ?_⟩) hHeld ?_ ?_
  rotate_left
  · intro w' hw'
    obtain ⟨s0, s1⟩ := hw'
    go_simp
    with_reducible rfl
  rotate_left
  · simp only [Act.put, List.setIfInBounds_toArray, List.set_cons_zero, List.set_cons_succ]
    rfl
  refine join_ (σ := Value × Value × Value) 0 #[true, true, true, true, true, true, true, true, true] (fun s => [(13, .int .u8 (bitS ok)), (14, s.1), (17, s.2.1), (18, s.2.2), (4, s.2.2)]) (fun s w' => OwB w' W1.heap.size s.2.2 ([bitS ok] ++ put m 8) ∧ Below W1.heap.size W1 w') ?hcont (fun hc_ => ?_)
  case hcont =>
    clear hHeld
    rintro ⟨v14, v17, v18⟩ wj ⟨hO, hV⟩
    refine norm_ (a' := ?_) ?_ ?_
    rotate_left
    · simp only [putAll, Act.put, List.setIfInBounds_toArray, List.set_cons_zero, List.set_cons_succ]
      rfl
    refine done_ (done_of HT_.out (by kernel_rfl)) ?_
    clear HT_
    simp only at hO
    have HO := Aside0.mk hO
    have HB := Aside0.mk hV
    have d2 := pw_cell_below hV HX2.out
    clear hO hV
    go_upto_region 5 with (first | (go_at_call 30; (with_reducible refine (put_yesI (L.length : Int) 2 2 rfl _ (by decide) (by decide)).mono ?_); rintro e w24 ⟨v24, rfl, ho, hb⟩; obtain ⟨A24, c24, rfl, hcap24, hr24⟩ := Ow_slice ho; have HR24 := Aside0.mk hr24; replace HO := Aside0.mk (Kd.R_below HO.out hb); replace HB := Aside0.mk (HB.out.trans (hb.mono HB.out.size)); clear ho hb hr24) | ((with_reducible refine gate_dst (N := 25) rfl ?_); (try (refine gate_guard (by rfl) ?_; dsimp only)); refine appB W1.heap.size rfl (.tmp 19) (.tmp 24) rfl rfl v18 ([bitS ok] ++ put m 8) (put (L.length : Int) 2) A24 ((put (L.length : Int) 2).length) c24 rfl rfl HO.out HR24.out HB.out HB.out.size (by simp only [List.length_append, put_len]; simp) ?_; intro v25 w25 ho hb hg hat; clear HB; have HB := Aside0.mk hb; have HO25 := Aside0.mk ho; clear ho hb hg hat))
    clear d2
    have d2 := pw_cell_below HB.out HX2.out
    obtain ⟨y0, hy0⟩ : ∃ y0, y0 = [bitS ok] ++ put m 8 ++ put (L.length : Int) 2 := ⟨_, rfl⟩
    rw [← hy0] at HO25
    have HY0 := Aside0.mk hy0
    have hyl : y0.length = 11 := by rw [hy0]; simp [put_len]
    clear hy0
    go_wp2
    go_loopg [4, 29] L.length (fun gk u v w' => ∃ i : Nat, v = .int .i64 (i : Int) ∧ i + gk = L.length ∧ Aside0 (OwB w' W1.heap.size u (y0 ++ looksS (L.take i))) ∧ Aside0 (Below W1.heap.size W1 w'))
    case atStart => exact ⟨0, rfl, by omega, ⟨by simpa [looksS] using HO25.out⟩, HB⟩
    case round =>
      clear HB HO HO25 HR24 d2
      obtain ⟨i, rfl, hi, HO, HB⟩ := hrel
      by_cases hlt : i < L.length
      · obtain ⟨a4, rfl, hc1⟩ := C_flat HR4.out (0, false) i hlt
        obtain ⟨x, hx⟩ : ∃ x, x = L.getD i (0, false) := ⟨_, rfl⟩
        obtain ⟨pm, pb⟩ := x
        have hget : L[i] = (pm, pb) := by rw [hx, List.getD_eq_getElem?_getD, List.getElem?_eq_getElem hlt]; rfl
        rw [← hx] at hc1
        have g0 : wr.cell? (a4.add (i * 2)) = some (.int .u64 pm) := pw_cell_below HB.out (hc1 0 _ rfl)
        have g1 : wr.cell? ⟨(a4.add (i * 2)).block, (a4.add (i * 2)).off + 1, none⟩ = some (.bool pb) := pw_cell_below HB.out ((add_next a4 (i * 2)) ▸ hc1 1 _ rfl)
        have HS := Aside0.mk (show looksS (L.take (i + 1)) = looksS (L.take i) ++ (put pm 8 ++ [bitS pb]) by rw [looksS_snoc hlt, hget])
        have hi0 : (0 : Int) ≤ (i : Int) := by omega
        have hi1 : (i : Int) < (L.length : Int) := by omega
        clear hc1 hx hget
        obtain ⟨y1, hy1⟩ : ∃ y1, y1 = y0 ++ looksS (L.take i) := ⟨_, rfl⟩
        have hyl1 : y1.length ≤ 1000000 := by rw [hy1, List.length_append, looksS_len, List.length_take]; have := HLL.out; omega
        rw [← hy1] at HO
        have HY1 := Aside0.mk hy1
        clear hy1
        go_upto_region 8 with (fail)
        have hxx := blk_new wr (.cells #[.int .u64 pm, .bool pb] 35)
        have HXB := Aside0.mk hxx
        obtain ⟨wx, hwx⟩ : ∃ wx, wx = wr.alloc (.cells #[.int .u64 pm, .bool pb] 35) := ⟨_, rfl⟩
        have hb : Below wr.heap.size wr wx := by rw [hwx]; exact below_alloc (Below.refl _ _) _
        rw [← hwx] at HXB ⊢
        replace HO := Aside0.mk (Kd.R_below HO.out hb)
        replace HB := Aside0.mk (HB.out.trans (hb.mono HB.out.size))
        clear hwx hxx hb g0 g1
        refine start_ (n := 11) (S := fun w' => w'.cell? ⟨wr.heap.size, 0, none⟩ = some (.int .u64 pm) ∧ w'.cell? ⟨wr.heap.size, 1, none⟩ = some (.bool pb)) (ds := []) #[false, false, false, false, false, false, false, false, false, false, false] (by kernel_rfl) rfl rfl (show (wx.drew).cell? _ = _ ∧ (wx.drew).cell? _ = _ from ⟨pw_cell_below (below_drew (Below.refl _ _)) (blk_cell HXB.out 0), pw_cell_below (below_drew (Below.refl _ _)) (blk_cell HXB.out 1)⟩) (fun hHeld => ?_); refine with_tab tabEn8_ok (fun HT_ => ?_)
        have hb : Below wx.heap.size wx wx.drew := below_drew (Below.refl _ _)
        replace HXB := Aside0.mk ((hb.block _ (blk_lt HXB.out)).trans HXB.out)
        replace HO := Aside0.mk (Kd.R_below HO.out hb)
        replace HB := Aside0.mk (HB.out.trans (hb.mono HB.out.size))
        clear hb
        skip
        refine pure_ (i := 0) (N := some 33) (v := ?_) (a' := ?_) #[true, false, false, false, false, false, false, false, false, false, false] rfl rfl (any_of HT_.out (by kernel_rfl)) (fun _ _ _ h => h) (Or.inl ⟨by rfl, ?_⟩) ?_ ?_
        rotate_left
        · intro w'
          go_simp
          with_reducible rfl
        rotate_left
        · simp only [Act.put, List.setIfInBounds_toArray, List.set_cons_zero, List.set_cons_succ]
          rfl
        refine pure_ (i := 1) (N := some 34) (v := ?_) (a' := ?_) #[true, true, false, false, false, false, false, false, false, false, false] rfl rfl (any_of HT_.out (by kernel_rfl)) (fun _ _ _ h => h) (Or.inl ⟨by rfl, ?_⟩) ?_ ?_
        rotate_left
        · intro w'
          go_simp
          with_reducible rfl
        rotate_left
        · simp only [Act.put, List.setIfInBounds_toArray, List.set_cons_zero, List.set_cons_succ]
          rfl
        refine take_ (i := 2) (N := some 35) (v := ?_) (a' := ?_) #[true, true, true, false, false, false, false, false, false, false, false] rfl rfl (take_of HT_.out (by kernel_rfl)) (fun _ _ _ h => h) (Or.inl ⟨by rfl, ?_⟩) hHeld ?_ ?_
        rotate_left
        · intro w' hw'
          obtain ⟨s0, s1⟩ := hw'
          go_simp
          with_reducible rfl
        rotate_left
        · simp only [Act.put, List.setIfInBounds_toArray, List.set_cons_zero, List.set_cons_succ]
          rfl
        refine pure_ (i := 5) (N := some 38) (v := ?_) (a' := ?_) #[true, true, true, false, false, true, false, false, false, false, false] rfl rfl (any_of HT_.out (by kernel_rfl)) (fun _ _ _ h => h) (Or.inl ⟨by rfl, ?_⟩) ?_ ?_
        rotate_left
        · intro w'
          go_simp
          with_reducible rfl
        rotate_left
        · simp only [Act.put, List.setIfInBounds_toArray, List.set_cons_zero, List.set_cons_succ]
          rfl
        refine take_ (i := 6) (N := some 39) (v := ?_) (a' := ?_) #[true, true, true, false, false, true, true, false, false, false, false] rfl rfl (take_of HT_.out (by kernel_rfl)) (fun _ _ _ h => h) (Or.inl ⟨by rfl, ?_⟩) hHeld ?_ ?_
        rotate_left
        · intro w' hw'
          obtain ⟨s0, s1⟩ := hw'
          go_simp
          with_reducible rfl
        rotate_left
        · simp only [Act.put, List.setIfInBounds_toArray, List.set_cons_zero, List.set_cons_succ]
          rfl
        refine one_ (i := 3) (N := some 36) #[true, true, true, true, false, true, true, false, false, false, false] rfl rfl (one_of HT_.out (by kernel_rfl)) (by decide) (fun Kq_ hK_ => ?_)
        refine goes_ Try.func30 (by kernel_rfl) rfl #[.int .u64 pm, .int .i64 8] (by rfl) rfl rfl (by (try simp only [List.map_toArray, List.map_cons, List.map_nil]); first | done | rfl) ?_
        with_reducible refine (put_yesI pm 8 8 rfl _ (by decide) (by decide)).mono ?_
        rintro e w36 ⟨v36, rfl, ho, hb⟩
        refine ⟨_, rfl, ?_⟩
        obtain ⟨A36, c36, rfl, hcap36, hr36⟩ := Ow_slice ho
        have HR36 := Aside0.mk hr36
        replace HO := Aside0.mk (Kd.R_below HO.out hb)
        replace HXB := Aside0.mk ((hb.block _ (blk_lt HXB.out)).trans HXB.out)
        replace HB := Aside0.mk (HB.out.trans (hb.mono HB.out.size))
        clear ho hb hr36 hcap36
        refine hK_.out _ _ ⟨blk_cell HXB.out 0, blk_cell HXB.out 1⟩ (fun hHeld => ?_)
        clear hK_ Kq_
        refine norm_ (a' := ?_) ?_ ?_
        rotate_left
        · show Act.put _ (some 36) _ = _
          simp only [Act.put, List.setIfInBounds_toArray, List.set_cons_zero, List.set_cons_succ]
          rfl
        refine one_ (i := 4) (N := some 37) #[true, true, true, true, true, true, true, false, false, false, false] rfl rfl (one_of HT_.out (by kernel_rfl)) (by decide) (fun Kq_ hK_ => ?_)
        refine appB_step W1.heap.size (by rfl) (.tmp 33) (.tmp 36) rfl rfl _ y1 (put pm 8) A36 _ c36 rfl rfl HO.out HR36.out HB.out HB.out.size (by rw [put_len]; omega) ?_
        intro v37 w37 ho hb hg hat
        replace HXB := Aside0.mk (blk_grown HXB.out hg (Kd.R_ne HO.out HXB.out (by decide)))
        clear HB HO
        have HB := Aside0.mk hb
        have HO := Aside0.mk ho
        clear ho hb hg hat
        refine hK_.out _ _ ⟨blk_cell HXB.out 0, blk_cell HXB.out 1⟩ (fun hHeld => ?_)
        clear hK_ Kq_
        refine norm_ (a' := ?_) ?_ ?_
        rotate_left
        · show Act.put _ (some 37) _ = _
          simp only [Act.put, List.setIfInBounds_toArray, List.set_cons_zero, List.set_cons_succ]
          rfl
        refine one_ (i := 7) (N := some 40) #[true, true, true, true, true, true, true, true, false, false, false] rfl rfl (one_of HT_.out (by kernel_rfl)) (by decide) (fun Kq_ hK_ => ?_)
        refine goes_ Try.func29 (by kernel_rfl) rfl #[.bool pb] (by rfl) rfl rfl (by (try simp only [List.map_toArray, List.map_cons, List.map_nil]); first | done | rfl) ?_
        with_reducible refine (bit_any pb _).mono ?_
        rintro e w' ⟨rfl, rfl⟩
        refine ⟨_, rfl, ?_⟩
        refine hK_.out _ _ ⟨blk_cell HXB.out 0, blk_cell HXB.out 1⟩ (fun hHeld => ?_)
        clear hK_ Kq_
        refine norm_ (a' := ?_) ?_ ?_
        rotate_left
        · show Act.put _ (some 40) _ = _
          simp only [Act.put, List.setIfInBounds_toArray, List.set_cons_zero, List.set_cons_succ]
          rfl
        refine one_ (i := 8) (N := some 41) #[true, true, true, true, true, true, true, true, true, false, false] rfl rfl (one_of HT_.out (by kernel_rfl)) (by decide) (fun Kq_ hK_ => ?_)
        refine litB_step W1.heap.size (by rfl) (N := 41) rfl [bitS pb] ?hr HB.out HB.out.size (by simp) ?_
        (case hr => first | (go_simp; done) | (go_simp; rfl))
        intro v41 w41 ho hb0 hn hb
        replace HO := Aside0.mk (Kd.R_below HO.out hb)
        replace HXB := Aside0.mk ((hb.block _ (blk_lt HXB.out)).trans HXB.out)
        clear HB
        have HB := Aside0.mk hb0
        obtain ⟨A41, c41, rfl, hcap41, hr41⟩ := Ow_slice ho
        have HR41 := Aside0.mk hr41
        clear ho hb hb0 hn hr41 hcap41
        refine hK_.out _ _ ⟨blk_cell HXB.out 0, blk_cell HXB.out 1⟩ (fun hHeld => ?_)
        clear hK_ Kq_
        refine norm_ (a' := ?_) ?_ ?_
        rotate_left
        · show Act.put _ (some 41) _ = _
          simp only [Act.put, List.setIfInBounds_toArray, List.set_cons_zero, List.set_cons_succ]
          rfl
        refine one_ (i := 9) (N := some 42) #[true, true, true, true, true, true, true, true, true, true, false] rfl rfl (one_of HT_.out (by kernel_rfl)) (by decide) (fun Kq_ hK_ => ?_)
        refine appB_step W1.heap.size (by rfl) (.tmp 37) (.tmp 41) rfl rfl v37 (y1 ++ put pm 8) [bitS pb] A41 _ c41 rfl rfl HO.out HR41.out HB.out HB.out.size (by rw [List.length_append, put_len]; simp; omega) ?_
        intro v42 w42 ho hb hg hat
        replace HXB := Aside0.mk (blk_grown HXB.out hg (Kd.R_ne HO.out HXB.out (by decide)))
        clear HB HO
        have HB := Aside0.mk hb
        have HO := Aside0.mk ho
        clear ho hb hg hat
        refine hK_.out _ _ ⟨blk_cell HXB.out 0, blk_cell HXB.out 1⟩ (fun hHeld => ?_)
        clear hK_ Kq_
        refine norm_ (a' := ?_) ?_ ?_
        rotate_left
        · show Act.put _ (some 42) _ = _
          simp only [Act.put, List.setIfInBounds_toArray, List.set_cons_zero, List.set_cons_succ]
          rfl
        refine pure_ (i := 10) (N := some 4) (v := ?_) (a' := ?_) #[true, true, true, true, true, true, true, true, true, true, true] rfl rfl (any_of HT_.out (by kernel_rfl)) (fun _ _ _ h => h) (Or.inl ⟨by rfl, ?_⟩) ?_ ?_
        rotate_left
        · intro w'
          go_simp
          with_reducible rfl
        rotate_left
        · simp only [Act.put, List.setIfInBounds_toArray, List.set_cons_zero, List.set_cons_succ]
          rfl
        refine done_ (done_of HT_.out (by kernel_rfl)) ?_
        clear HT_ hHeld
        go_wp2
        go_roundg (gk - 1)
        case measure => omega
        case rel => exact ⟨i + 1, by go_num, by omega, ⟨by rw [HS.out, ← List.append_assoc, ← HY1.out, ← List.append_assoc]; exact HO.out⟩, HB⟩
      · have HT := Aside0.mk (show L.take i = L from List.take_of_length_le (by omega))
        go_wp2
        go_ret2
        refine ⟨⟨_, rfl, ?_⟩, HB1.out.trans (HB.out.mono HB1.out.size)⟩
        have := Kd.R_lower HO.out HB1.out.size
        rw [HT.out, HY0.out] at this
        simpa [encP, List.append_assoc] using this
  refine one_ (i := 2) (N := some 13) #[true, true, true, false, true, true, false, false, false] rfl rfl (one_of HT_.out (by kernel_rfl)) (by decide) (fun Kq_ hK_ => ?_)
  refine goes_ Try.func29 (by kernel_rfl) rfl #[.bool ok] (by rfl) rfl rfl (by (try simp only [List.map_toArray, List.map_cons, List.map_nil]); first | done | rfl) ?_
  with_reducible refine (bit_any ok _).mono ?_
  rintro e w' ⟨rfl, rfl⟩
  refine ⟨_, rfl, ?_⟩
  refine hK_.out _ _ ⟨pw_cell_below HB.out HX0.out, pw_cell_below HB.out HX1.out⟩ (fun hHeld => ?_)
  clear hK_ Kq_
  refine norm_ (a' := ?_) ?_ ?_
  rotate_left
  · show Act.put _ (some 13) _ = _
    simp only [Act.put, List.setIfInBounds_toArray, List.set_cons_zero, List.set_cons_succ]
    rfl
  refine two_ (i := 3) (j := 6) (Ni := some 14) (Nj := some 17) #[true, true, true, true, true, true, false, false, false] #[true, true, true, false, true, true, true, false, false] rfl rfl rfl rfl (two_of HT_.out (by kernel_rfl)) (by decide) (by decide) (fun Kq_ hK_ => ?_) (fun Kq_ hK_ => ?_)
  · refine litB_step W1.heap.size (by rfl) (N := 14) rfl [bitS ok] ?hr HB.out HB.out.size (by simp) ?_
    (case hr => first | (go_simp; done) | (go_simp; rfl))
    intro v14 w14 ho hb0 hn hb
    clear HB
    have HB := Aside0.mk hb0
    have HO := Aside0.mk ho
    clear ho hb hb0 hn
    refine hK_.out _ _ ⟨pw_cell_below HB.out HX0.out, pw_cell_below HB.out HX1.out⟩ (fun hHeld => ?_)
    clear hK_ Kq_
    refine norm_ (a' := ?_) ?_ ?_
    rotate_left
    · show Act.put _ (some 14) _ = _
      simp only [Act.put, List.setIfInBounds_toArray, List.set_cons_zero, List.set_cons_succ]
      rfl
    refine one_ (i := 6) (N := some 17) #[true, true, true, true, true, true, true, false, false] rfl rfl (one_of HT_.out (by kernel_rfl)) (by decide) (fun Kq_ hK_ => ?_)
    refine goes_ Try.func30 (by kernel_rfl) rfl #[.int .u64 m, .int .i64 8] (by rfl) rfl rfl (by (try simp only [List.map_toArray, List.map_cons, List.map_nil]); first | done | rfl) ?_
    with_reducible refine (put_yesI m 8 8 rfl _ (by decide) (by decide)).mono ?_
    rintro e w17 ⟨v17, rfl, ho, hb⟩
    refine ⟨_, rfl, ?_⟩
    obtain ⟨A17, c17, rfl, hcap17, hr17⟩ := Ow_slice ho
    have HR17 := Aside0.mk hr17
    replace HO := Aside0.mk (Kd.R_below HO.out hb)
    replace HB := Aside0.mk (HB.out.trans (hb.mono HB.out.size))
    clear ho hb hr17 hcap17
    refine hK_.out _ _ ⟨pw_cell_below HB.out HX0.out, pw_cell_below HB.out HX1.out⟩ (fun hHeld => ?_)
    clear hK_ Kq_
    refine norm_ (a' := ?_) ?_ ?_
    rotate_left
    · show Act.put _ (some 17) _ = _
      simp only [Act.put, List.setIfInBounds_toArray, List.set_cons_zero, List.set_cons_succ]
      rfl
    refine one_ (i := 7) (N := some 18) #[true, true, true, true, true, true, true, true, false] rfl rfl (one_of HT_.out (by kernel_rfl)) (by decide) (fun Kq_ hK_ => ?_)
    refine appB_step W1.heap.size (by rfl) (.tmp 14) (.tmp 17) rfl rfl v14 [bitS ok] (put m 8) A17 _ c17 rfl rfl HO.out HR17.out HB.out HB.out.size (by rw [put_len]; simp) ?_
    intro v18 w18 ho hb hg hat
    clear HB HO
    have HB := Aside0.mk hb
    have HO := Aside0.mk ho
    clear ho hb hg hat
    refine hK_.out _ _ ⟨pw_cell_below HB.out HX0.out, pw_cell_below HB.out HX1.out⟩ (fun hHeld => ?_)
    clear hK_ Kq_
    refine norm_ (a' := ?_) ?_ ?_
    rotate_left
    · show Act.put _ (some 18) _ = _
      simp only [Act.put, List.setIfInBounds_toArray, List.set_cons_zero, List.set_cons_succ]
      rfl
    refine pure_ (i := 8) (N := some 4) (v := ?_) (a' := ?_) #[true, true, true, true, true, true, true, true, true] rfl rfl (any_of HT_.out (by kernel_rfl)) (fun _ _ _ h => h) (Or.inl ⟨by rfl, ?_⟩) ?_ ?_
    rotate_left
    · intro w'
      go_simp
      with_reducible rfl
    rotate_left
    · simp only [Act.put, List.setIfInBounds_toArray, List.set_cons_zero, List.set_cons_succ]
      rfl
    have h_ := hc_ (v14, .slice A17 (put m 8).length c17, v18) _ ⟨HO.out, HB.out⟩
    simp only [putAll, Act.put, List.setIfInBounds_toArray, List.set_cons_zero, List.set_cons_succ] at h_
    exact h_
  · refine goes_ Try.func30 (by kernel_rfl) rfl #[.int .u64 m, .int .i64 8] (by rfl) rfl rfl (by (try simp only [List.map_toArray, List.map_cons, List.map_nil]); first | done | rfl) ?_
    with_reducible refine (put_yesI m 8 8 rfl _ (by decide) (by decide)).mono ?_
    rintro e w17 ⟨v17, rfl, ho, hb⟩
    refine ⟨_, rfl, ?_⟩
    obtain ⟨A17, c17, rfl, hcap17, hr17⟩ := Ow_slice ho
    have HR17 := Aside0.mk hr17
    replace HB := Aside0.mk (HB.out.trans (hb.mono HB.out.size))
    clear ho hb hr17 hcap17
    refine hK_.out _ _ ⟨pw_cell_below HB.out HX0.out, pw_cell_below HB.out HX1.out⟩ (fun hHeld => ?_)
    clear hK_ Kq_
    refine norm_ (a' := ?_) ?_ ?_
    rotate_left
    · show Act.put _ (some 17) _ = _
      simp only [Act.put, List.setIfInBounds_toArray, List.set_cons_zero, List.set_cons_succ]
      rfl
    refine one_ (i := 3) (N := some 14) #[true, true, true, true, true, true, true, false, false] rfl rfl (one_of HT_.out (by kernel_rfl)) (by decide) (fun Kq_ hK_ => ?_)
    refine litB_step W1.heap.size (by rfl) (N := 14) rfl [bitS ok] ?hr HB.out HB.out.size (by simp) ?_
    (case hr => first | (go_simp; done) | (go_simp; rfl))
    intro v14 w14 ho hb0 hn hb
    replace HR17 := Aside0.mk (Kd.C_below HR17.out hb)
    clear HB
    have HB := Aside0.mk hb0
    have HO := Aside0.mk ho
    clear ho hb hb0 hn
    refine hK_.out _ _ ⟨pw_cell_below HB.out HX0.out, pw_cell_below HB.out HX1.out⟩ (fun hHeld => ?_)
    clear hK_ Kq_
    refine norm_ (a' := ?_) ?_ ?_
    rotate_left
    · show Act.put _ (some 14) _ = _
      simp only [Act.put, List.setIfInBounds_toArray, List.set_cons_zero, List.set_cons_succ]
      rfl
    refine one_ (i := 7) (N := some 18) #[true, true, true, true, true, true, true, true, false] rfl rfl (one_of HT_.out (by kernel_rfl)) (by decide) (fun Kq_ hK_ => ?_)
    refine appB_step W1.heap.size (by rfl) (.tmp 14) (.tmp 17) rfl rfl v14 [bitS ok] (put m 8) A17 _ c17 rfl rfl HO.out HR17.out HB.out HB.out.size (by rw [put_len]; simp) ?_
    intro v18 w18 ho hb hg hat
    clear HB HO
    have HB := Aside0.mk hb
    have HO := Aside0.mk ho
    clear ho hb hg hat
    refine hK_.out _ _ ⟨pw_cell_below HB.out HX0.out, pw_cell_below HB.out HX1.out⟩ (fun hHeld => ?_)
    clear hK_ Kq_
    refine norm_ (a' := ?_) ?_ ?_
    rotate_left
    · show Act.put _ (some 18) _ = _
      simp only [Act.put, List.setIfInBounds_toArray, List.set_cons_zero, List.set_cons_succ]
      rfl
    refine pure_ (i := 8) (N := some 4) (v := ?_) (a' := ?_) #[true, true, true, true, true, true, true, true, true] rfl rfl (any_of HT_.out (by kernel_rfl)) (fun _ _ _ h => h) (Or.inl ⟨by rfl, ?_⟩) ?_ ?_
    rotate_left
    · intro w'
      go_simp
      with_reducible rfl
    rotate_left
    · simp only [Act.put, List.setIfInBounds_toArray, List.set_cons_zero, List.set_cons_succ]
      rfl
    have h_ := hc_ (v14, .slice A17 (put m 8).length c17, v18) _ ⟨HO.out, HB.out⟩
    simp only [putAll, Act.put, List.setIfInBounds_toArray, List.set_cons_zero, List.set_cons_succ] at h_
    exact h_
end Go.Proofs.Ytoojmbifkjocfaa.Proof
