/- CellRows answers true for every list of cells. No conditions. -/
import Derived.Test.YtbbnjcpeikklgaaCellDecode
import Derived.Test.YtbbnjcpeikklgaaCellSameLaw
namespace Go.Proofs.Ytbbnjcpeikklgaa.Plain
/-- All cells' bytes, one behind the other. -/
def encAll (l : List Cel) : List Int := (l.map encS).flatten
def gdC (l : List Cel) (i : Nat) : Cel := l.getD i cel0
theorem encAll_snoc {l : List Cel} {i : Nat} (h : i < l.length) : encAll (l.take (i + 1)) = encAll (l.take i) ++ encS (gdC l i) := by
  rw [List.take_succ_eq_append_getElem h, encAll, List.map_append, List.flatten_append]
  simp [encAll, gdC, h]
theorem encAll_drop {l : List Cel} {i : Nat} (h : i < l.length) : encAll (l.drop i) = encS (gdC l i) ++ encAll (l.drop (i + 1)) := by
  have hg : gdC l i = l[i] := by simp [gdC, h]
  rw [List.drop_eq_getElem_cons h, hg]
  simp only [encAll, List.map_cons, List.flatten_cons]
theorem gdC_mem {l : List Cel} {i : Nat} (h : i < l.length) : gdC l i ∈ l := by
  have : gdC l i = l[i] := by simp [gdC, h]
  rw [this]; exact List.getElem_mem h
theorem encAll_byt {l : List Cel} (h : ∀ x ∈ l, Byt x.body) : Byt (encAll l) := by
  intro z hz
  obtain ⟨y, hy, hz⟩ := List.mem_flatten.1 hz
  obtain ⟨x, hx, rfl⟩ := List.mem_map.1 hy
  exact Byt.encS (h x hx) z hz
theorem encAll_len {l : List Cel} (h : ∀ x ∈ l, CelWf x ∧ rightB x = true) : (encAll l).length ≤ l.length * 46 := by
  induction l with
  | nil => simp [encAll]
  | cons x l ih =>
    have h1 := encS_len x (h x (by simp)).1 (h x (by simp)).2
    have h2 := ih (fun y hy => h y (by simp [hy]))
    simp only [encAll, List.map_cons, List.flatten_cons, List.length_append, List.length_cons] at h2 ⊢
    omega
end Go.Proofs.Ytbbnjcpeikklgaa.Plain
namespace Go.Proofs.Ytbbnjcpeikklgaa.Cell
open Go.RowKit Go.Proofs.YtbbnjcpeikklgaaW.PrintWords Go.Proofs.YtbbnjcpeikklgaaW.PrintLast Go.Proofs.YtbbnjcpeikklgaaW.PrintMore Go.Proofs.Ytbbnjcpeikklgaa.Kit Go.Proofs.Ytbbnjcpeikklgaa.Plain Go.Proofs.Ytbbnjcpeikklgaa.Wire
set_option linter.unusedVariables false
set_option linter.unusedSimpArgs false
theorem add_plus (a : Addr) (j k : Nat) : a.add (j + (k + 1)) = ⟨(a.add j).block, (a.add j).off + (k + 1), none⟩ := by
  unfold Addr.add
  split <;> split <;> simp_all <;> omega
theorem opensCels : Opens Try.prog 44 (Kd.slice 27 CelD) (fun l => l.length ≤ maxLen ∧ ∀ x ∈ l, CelTy x) := opens_slice Try.underlying44 (by kernel_rfl) opensCel
/-- The cells of an element of a row of cells. -/
abbrev CelIn (W : World) (a : Addr) (x : Cel) (A : Option Addr) (c : Nat) : Prop :=
  W.cell? a = some (.int .i64 x.kind) ∧ W.cell? ⟨a.block, a.off + 1, none⟩ = some (.int .u64 x.num) ∧ W.cell? ⟨a.block, a.off + 2, none⟩ = some (.int .i64 x.min) ∧ W.cell? ⟨a.block, a.off + 3, none⟩ = some (.int .i64 x.br) ∧ W.cell? ⟨a.block, a.off + 4, none⟩ = some (.int .i64 x.vol) ∧ W.cell? ⟨a.block, a.off + 5, none⟩ = some (.int .i64 x.blk) ∧
  W.cell? ⟨a.block, a.off + 6, none⟩ = some (.int .u64 x.ref) ∧ W.cell? ⟨a.block, a.off + 7, none⟩ = some (.int .i64 x.fr) ∧ W.cell? ⟨a.block, a.off + 8, none⟩ = some (.int .i64 x.to) ∧ W.cell? ⟨a.block, a.off + 9, none⟩ = some (.int .i64 x.un) ∧ W.cell? ⟨a.block, a.off + 10, none⟩ = some (.slice A x.body.length c)
theorem cel_row {W : World} {B : Option Addr} {n : Nat} {l : List Cel} (h : Kd.C CelD W B n l) (i : Nat) (hi : i < n) : ∃ ad A c, B = some ad ∧ CelIn W (ad.add (i * 11)) (gdC l i) A c ∧ (gdC l i).body.length ≤ c ∧ RdN W A (gdC l i).body.length (gdC l i).body := by
  obtain ⟨ad, cs, e, _, hK, hc⟩ := Kd.C_get h cel0 (i : Int) (by omega) (by omega)
  obtain ⟨A, c, rfl, hl, hC⟩ := celD_open hK
  have hg : ∀ j u, (celA (gdC l i) A c).toList[j]? = some u → W.cell? (ad.add (i * 11 + j)) = some u := hc
  refine ⟨ad, A, c, e, ⟨hg 0 _ rfl, ?_, ?_, ?_, ?_, ?_, ?_, ?_, ?_, ?_, ?_⟩, hl, hC⟩ <;> rw [← add_plus]
  · exact hg 1 _ rfl
  · exact hg 2 _ rfl
  · exact hg 3 _ rfl
  · exact hg 4 _ rfl
  · exact hg 5 _ rfl
  · exact hg 6 _ rfl
  · exact hg 7 _ rfl
  · exact hg 8 _ rfl
  · exact hg 9 _ rfl
  · exact hg 10 _ rfl
theorem CelIn.below {w W : World} {a : Addr} {x : Cel} {A : Option Addr} {c : Nat} (h : CelIn w a x A c) (hb : Below w.heap.size w W) : CelIn W a x A c := by
  obtain ⟨h0, h1, h2, h3, h4, h5, h6, h7, h8, h9, h10⟩ := h
  exact ⟨pw_cell_below hb h0, pw_cell_below hb h1, pw_cell_below hb h2, pw_cell_below hb h3, pw_cell_below hb h4, pw_cell_below hb h5, pw_cell_below hb h6, pw_cell_below hb h7, pw_cell_below hb h8, pw_cell_below hb h9, pw_cell_below hb h10⟩
def tabW23 : Bool × List (List Nat × List Nat) := (true, [([], []), ([0], [0]), ([1], [1]), ([2], [2]), ([2], [2]), ([2], [2]), ([4, 5, 2], [2, 4, 5]), ([6, 2], [2, 6]), ([3, 7, 2, 2], [2, 3, 7]), ([8, 2], [2, 8]), ([2, 9], [2, 9]), ([10, 8], [10]), ([11], [11]), ([12, 11], [11, 12]), ([11], [11]), ([14, 11], [11, 14]), ([13, 15, 11], [11, 13, 15]), ([11, 16], [11, 16])])
theorem tabW23_ok : rtab .any (opsOf Try.f11 23) = tabW23 := by kernel_rfl
set_option maxHeartbeats 6400000 in
set_option maxRecDepth 100000 in
theorem rows_law (B : Option Addr) (n bc : Nat) (l : List Cel) (w : World) (hr : Kd.C CelD w B n l) (ht : ∀ x ∈ l, CelTy x) :
    Calls Try.prog 11 #[.slice B n bc] w fun e w' => e = .returned (.bool true) ∧ Below w.heap.size w w' := by
  obtain rfl := Kd.C_len hr
  have hmx := Kd.C_max hr
  have HR := Aside0.mk hr
  have HT := Aside0.mk ht
  clear hr ht
  have HB := Aside0.mk (Below.refl w.heap.size w)
  by_cases hlen : 20 < l.length
  · have g0 : decide (20 < (l.length : Int)) = true := decide_eq_true (by omega)
    go_enter Try.func11, Try.ntmps11
    go_wp2_with (go_at_call 12; refine (awake_any _).mono ?_; rintro e w1 ⟨rfl, hb⟩; clear HB; have HB := Aside0.mk hb; clear hb)
    go_ret
    exact ⟨rfl, HB.out⟩
  have g0 : decide (20 < (l.length : Int)) = false := decide_eq_false (by omega)
  have hl20 : l.length ≤ 20 := by omega
  clear hlen
  go_enter Try.func11, Try.ntmps11
  go_wp2_with (go_at_call 12; refine (awake_any _).mono ?_; rintro e w1 ⟨rfl, hb⟩; clear HB; have HB := Aside0.mk hb; clear hb)
  go_loopg [3, 4, 5] l.length (fun gk v3 v4 v5 w' => ∃ (i m : Nat) (y : List Int), v5 = .int .i64 (i : Int) ∧ v4 = .int .i64 (m : Int) ∧ i + gk = l.length ∧ m ≤ i * 46 ∧ y.length = m ∧ Aside0 (y = encAll (l.take i)) ∧ Aside0 (∀ x ∈ l.take i, rightB x = true) ∧ Aside0 (OwB w' w.heap.size v3 y) ∧ Aside0 (Below w.heap.size w w'))
  case atStart => exact ⟨0, 0, [], rfl, rfl, by omega, by omega, rfl, ⟨rfl⟩, ⟨fun x hx => by simp at hx⟩, ⟨Kd.R_nil _ _ _ _ _⟩, HB⟩
  case round =>
    clear HB
    obtain ⟨i, m, y, rfl, rfl, hi, hm, hyl, HY, HG, HO, HB⟩ := hrel
    by_cases hlt : i < l.length
    · obtain ⟨ad, A, c, rfl, hcel, hcap, hra⟩ := cel_row HR.out i hlt
      obtain ⟨x, hx⟩ : ∃ x, x = gdC l i := ⟨_, rfl⟩
      have htx : CelTy x := hx ▸ HT.out _ (gdC_mem hlt)
      rw [← hx] at hcel hcap hra
      obtain ⟨c0, c1, c2, c3, c4, c5, c6, c7, c8, c9, c10⟩ := CelIn.below hcel HB.out
      have HCI := Aside0.mk hcel
      have HRA := Aside0.mk hra
      have HTX := Aside0.mk htx
      have HXE := Aside0.mk hx
      have hmx' := C_max hra
      have hi0 : 0 ≤ (i : Int) := by omega
      have hi1 : (i : Int) < (l.length : Int) := by omega
      clear hcel hcap hra htx hx
      by_cases hbl : 100 < x.body.length
      · have g1 : decide (100 < (x.body.length : Int)) = true := decide_eq_true (by omega)
        go_wp2
        go_ret
        exact ⟨rfl, HB.out⟩
      have g1 : decide (100 < (x.body.length : Int)) = false := decide_eq_false (by omega)
      clear hbl
      cases hrx : rightB x with
      | false =>
        go_wp2_with (go_at_call 13; go_must (refine (encode_no x A c _ (Kd.C_below HRA.out HB.out) HTX.out.byt hrx).mono ?_; rintro e y7 ⟨rfl, hb⟩; replace HB := Aside0.mk (HB.out.trans (hb.mono HB.out.size)); clear hb))
        go_ret
        exact ⟨rfl, HB.out⟩
      | true =>
        have HX := Aside0.mk hrx
        have HL := Aside0.mk (encS_len x HTX.out.wf hrx)
        obtain ⟨k, hk⟩ : ∃ k, k = (encS x).length := ⟨_, rfl⟩
        have hk46 : k ≤ 46 := by rw [hk]; exact HL.out.2.1
        have HKE := Aside0.mk hk
        have HE := Aside0.mk (encR_yes hrx)
        have HYL := Aside0.mk hyl
        clear hk hrx hyl
        go_wp2_with (first
          | (go_at_call 13; go_must (refine (encode_yes x A c _ (Kd.C_below HRA.out HB.out) HTX.out.wf HX.out).mono ?_; rintro e y7 ⟨⟨v7, rfl, ho⟩, hb⟩; obtain ⟨A7, k7, rfl, hk7, hr7⟩ := Ow_slice ho; rw [← HKE.out]; have HR7 := Aside0.mk (show Kd.C (Kd.int .u8) y7 A7 k (encS x) by rw [HKE.out]; exact hr7); replace HO := Aside0.mk (Kd.R_below HO.out hb); replace HB := Aside0.mk (HB.out.trans (hb.mono HB.out.size)); clear hb ho hk7 hr7))
          | ((with_reducible refine gate_dst (N := 42) rfl ?_); go_must (refine appB w.heap.size rfl (.tmp 40) (.tmp 41) rfl rfl u3 y (encS x) A7 k k7 rfl rfl HO.out HR7.out HB.out HB.out.size (by rw [HYL.out]; omega) ?_; intro v8 w8 ho hb hg hat; clear HB HO; have HB := Aside0.mk hb; have HO := Aside0.mk ho; obtain ⟨c0, c1, c2, c3, c4, c5, c6, c7, c8, c9, c10⟩ := CelIn.below HCI.out HB.out; clear ho hb hg hat))
          | (go_at_call 20; go_must (refine (size_any x A c _ (Kd.C_below HRA.out HB.out) HTX.out.wf).mono ?_; rintro e w9 ⟨rfl, hb⟩; rw [HE.out, ← HKE.out]; replace HO := Aside0.mk (Kd.R_below HO.out hb); replace HB := Aside0.mk (HB.out.trans (hb.mono HB.out.size)); clear hb)))
        go_roundg (gk - 1)
        case measure => omega
        case rel => exact ⟨i + 1, m + k, y ++ encS x, by go_num, by go_num, by omega, by omega, by rw [List.length_append, HYL.out, HKE.out], ⟨by rw [encAll_snoc hlt, ← HXE.out, ← HY.out]⟩, ⟨fun z hz => by
          rw [List.take_succ_eq_append_getElem hlt] at hz
          rcases List.mem_append.1 hz with h | h
          · exact HG.out z h
          · have hzz : z = gdC l i := by simpa [gdC, hlt] using h
            rw [hzz, ← HXE.out]; exact HX.out⟩, HO, HB⟩
    · obtain rfl : i = l.length := by omega
      obtain ⟨A3, k3, rfl, hk3, hr3⟩ := Ow_slice HO.out
      have hye : y = encAll l := by rw [HY.out, List.take_length]
      have hgood : ∀ x ∈ l, CelWf x ∧ rightB x = true := fun x hx => ⟨(HT.out x hx).wf, HG.out x (by rw [List.take_length]; exact hx)⟩
      have HGD := Aside0.mk hgood
      have HYB := Aside0.mk (encAll_byt (fun x hx => (HT.out x hx).byt))
      have HAL := Aside0.mk (encAll_len hgood)
      have hyl2 : y.length = m := hyl
      subst hye
      obtain ⟨wq, rfl⟩ : ∃ W : World, W = wr := ⟨_, rfl⟩
      have HR3 := Aside0.mk hr3
      have HK3 := Aside0.mk hk3
      have hne : ((encAll l).length : Int) = (m : Int) := by omega
      rw [hyl2] at hk3 ⊢
      have HML := Aside0.mk hyl2
      clear hgood hr3 hk3 hyl hyl2 HY HG HO hne
      go_wp2
      go_loopg [3, 8] l.length (fun gk v3 v8 w' => ∃ (i : Nat) (A' : Option Addr) (c' : Nat) (r : List Int), v8 = .int .i64 (i : Int) ∧ v3 = .slice A' r.length c' ∧ i + gk = l.length ∧ r.length ≤ 920 ∧ Aside0 (r = encAll (l.drop i)) ∧ Aside0 (RdB w' A' r) ∧ Aside0 (r.length ≤ c') ∧ Aside0 (Below wq.heap.size wq w'))
      case atStart => exact ⟨0, A3, k3, encAll l, rfl, by rw [HML.out], by omega, by have := HAL.out; omega, ⟨rfl⟩, HR3, HK3, ⟨Below.refl _ _⟩⟩
      case round =>
        obtain ⟨i, A', c', r, rfl, rfl, hi, hr920, HRE, HRR, HRC, HV⟩ := hrel
        by_cases hlt : i < l.length
        · obtain ⟨ad, A, c, rfl, hcel, hcap, hra⟩ := cel_row HR.out i hlt
          obtain ⟨x, hx⟩ : ∃ x, x = gdC l i := ⟨_, rfl⟩
          have hxm : x ∈ l := hx ▸ gdC_mem hlt
          have HTX := Aside0.mk (HT.out _ hxm)
          have HX := Aside0.mk (HGD.out _ hxm).2
          rw [← hx] at hcel hcap hra
          have HRA := Aside0.mk hra
          have HCI := Aside0.mk hcel
          have HXE := Aside0.mk hx
          have HL := Aside0.mk (encS_len x HTX.out.wf HX.out)
          obtain ⟨rest, hrest⟩ : ∃ rest, rest = encAll (l.drop (i + 1)) := ⟨_, rfl⟩
          have hre : r = encS x ++ rest := by rw [HRE.out, encAll_drop hlt, ← hx, hrest]
          have hrl : rest.length + 7 ≤ r.length := by rw [hre, List.length_append]; have := HL.out.2.2; omega
          have hrb : Byt r := by
            rw [HRE.out]
            exact encAll_byt (fun z hz => (HT.out z (List.mem_of_mem_drop hz)).byt)
          have HDE := Aside0.mk (show decS r = (x, rest, 0) by rw [hre]; exact dec_all x HTX.out.wf HX.out rest)
          have HRB := Aside0.mk hrb
          have HRST := Aside0.mk hrest
          have hi0 : 0 ≤ (i : Int) := by omega
          have hi1 : (i : Int) < (l.length : Int) := by omega
          have hB2 := HB.out
          clear hcel hcap hra hx hxm hrest hre hrb hB2
          go_upto_region 23 with (go_at_call 21; go_must (refine (decode_any A' c' r _ HRR.out HRC.out HRB.out (by omega)).mono ?_; rintro e y2 hd; rw [HDE.out] at hd; obtain ⟨⟨A1, k1, A4, k4, rfl, ho, hr4, hk4⟩, hb⟩ := hd; simp only at ho hr4 hk4 ⊢; have HR1 := Aside0.mk (Ow_rd ho).2.2; have HR4 := Aside0.mk (Kd.C_below hr4 hb); have HK4 := Aside0.mk hk4; have HV0 := HV; replace HV := Aside0.mk (HV.out.trans (hb.mono HV.out.size)); clear hb ho hr4 hk4))
          obtain ⟨w3, hw3⟩ : ∃ w3, w3 = y2.alloc (.cells (celA x A1 k1) 27) := ⟨_, rfl⟩
          rw [← hw3]
          have hb : Below y2.heap.size y2 w3 := by rw [hw3]; exact below_alloc (Below.refl _ _) _
          have HD := Aside0.mk (show w3.heap[y2.heap.size]? = some (.cells (celA x A1 k1) 27 (0, 0)) by rw [hw3]; exact blk_new _ _)
          replace HR1 := Aside0.mk (Kd.C_below HR1.out hb)
          replace HR4 := Aside0.mk (Kd.C_below HR4.out hb)
          replace HV := Aside0.mk (HV.out.trans (hb.mono HV.out.size))
          have HBW := Aside0.mk (HB.out.trans (HV.out.mono HB.out.size))
          have HCI3 := Aside0.mk (CelIn.below HCI.out HBW.out)
          clear hw3 hb
          go_wp2_with (fail)
          refine start_ (n := 18) (S := fun w' => w'.heap[y2.heap.size]? = some (.cells (celA x A1 k1) 27 (0, 0)) ∧ CelIn w' (ad.add (i * 11)) x A c) (ds := []) #[false, false, false, false, false, false, false, false, false, false, false, false, false, false, false, false, false, false] (by kernel_rfl) rfl rfl ⟨((below_drew (Below.refl w3.heap.size w3)).block _ (blk_lt HD.out)).trans HD.out, CelIn.below HCI3.out (below_drew (Below.refl w3.heap.size w3))⟩ (fun hHeld => ?_); refine with_tab tabW23_ok (fun HT_ => ?_)
          have hb : Below w3.heap.size w3 w3.drew := below_drew (Below.refl _ _)
          have HZ := Aside0.mk hb
          clear hb
          refine pure_ (i := 0) (N := some 66) (v := ?_) (a' := ?_) #[true, false, false, false, false, false, false, false, false, false, false, false, false, false, false, false, false, false] rfl rfl (any_of HT_.out (by kernel_rfl)) (fun _ _ _ h => h) (Or.inl ⟨by rfl, ?_⟩) ?_ ?_
          rotate_left
          · intro w'
            go_simp
            with_reducible rfl
          rotate_left
          · simp only [Act.put, List.setIfInBounds_toArray, List.set_cons_zero, List.set_cons_succ]
            rfl
          refine pure_ (i := 1) (N := some 67) (v := ?_) (a' := ?_) #[true, true, false, false, false, false, false, false, false, false, false, false, false, false, false, false, false, false] rfl rfl (any_of HT_.out (by kernel_rfl)) (fun _ _ _ h => h) (Or.inl ⟨by rfl, ?_⟩) ?_ ?_
          rotate_left
          · intro w'
            go_simp
            with_reducible rfl
          rotate_left
          · simp only [Act.put, List.setIfInBounds_toArray, List.set_cons_zero, List.set_cons_succ]
            rfl
          refine pure_ (i := 2) (N := some 68) (v := ?_) (a' := ?_) #[true, true, true, false, false, false, false, false, false, false, false, false, false, false, false, false, false, false] rfl rfl (any_of HT_.out (by kernel_rfl)) (fun _ _ _ h => h) (Or.inl ⟨by rfl, ?_⟩) ?_ ?_
          rotate_left
          · intro w'
            go_simp
            with_reducible rfl
          rotate_left
          · simp only [Act.put, List.setIfInBounds_toArray, List.set_cons_zero, List.set_cons_succ]
            rfl
          refine take_ (i := 3) (N := some 69) (v := ?_) (a' := ?_) #[true, true, true, true, false, false, false, false, false, false, false, false, false, false, false, false, false, false] rfl rfl (take_of HT_.out (by kernel_rfl)) (fun _ _ _ h => h) (Or.inl ⟨by rfl, ?_⟩) hHeld ?_ ?_
          rotate_left
          · intro w' hw'
            obtain ⟨s0, s1⟩ := hw'; obtain ⟨c0, c1, c2, c3, c4, c5, c6, c7, c8, c9⟩ := cel_at (x := x) (A := A1) (c := k1) s0; have c10 : w'.cell? ⟨y2.heap.size, 10, none⟩ = some (.slice A1 x.body.length k1) := blk_cell s0 10
            go_simp
            with_reducible rfl
          rotate_left
          · simp only [Act.put, List.setIfInBounds_toArray, List.set_cons_zero, List.set_cons_succ]
            rfl
          refine pure_ (i := 4) (N := some 70) (v := ?_) (a' := ?_) #[true, true, true, true, true, false, false, false, false, false, false, false, false, false, false, false, false, false] rfl rfl (any_of HT_.out (by kernel_rfl)) (fun _ _ _ h => h) (Or.inl ⟨by rfl, ?_⟩) ?_ ?_
          rotate_left
          · intro w'
            go_simp
            with_reducible rfl
          rotate_left
          · simp only [Act.put, List.setIfInBounds_toArray, List.set_cons_zero, List.set_cons_succ]
            rfl
          refine pure_ (i := 5) (N := some 71) (v := ?_) (a' := ?_) #[true, true, true, true, true, true, false, false, false, false, false, false, false, false, false, false, false, false] rfl rfl (any_of HT_.out (by kernel_rfl)) (fun _ _ _ h => h) (Or.inl ⟨by rfl, ?_⟩) ?_ ?_
          rotate_left
          · intro w'
            go_simp
            with_reducible rfl
          rotate_left
          · simp only [Act.put, List.setIfInBounds_toArray, List.set_cons_zero, List.set_cons_succ]
            rfl
          refine pure_ (i := 6) (N := some 72) (v := ?_) (a' := ?_) #[true, true, true, true, true, true, true, false, false, false, false, false, false, false, false, false, false, false] rfl rfl (any_of HT_.out (by kernel_rfl)) (fun _ _ _ h => h) (Or.inl ⟨by rfl, ?_⟩) ?_ ?_
          rotate_left
          · intro w'
            go_simp
            with_reducible rfl
          rotate_left
          · simp only [Act.put, List.setIfInBounds_toArray, List.set_cons_zero, List.set_cons_succ]
            rfl
          refine take_ (i := 7) (N := some 73) (v := ?_) (a' := ?_) #[true, true, true, true, true, true, true, true, false, false, false, false, false, false, false, false, false, false] rfl rfl (take_of HT_.out (by kernel_rfl)) (fun _ _ _ h => h) (Or.inl ⟨by rfl, ?_⟩) hHeld ?_ ?_
          rotate_left
          · intro w' hw'
            obtain ⟨s0, s1⟩ := hw'; obtain ⟨c0, c1, c2, c3, c4, c5, c6, c7, c8, c9, c10⟩ := s1
            go_simp
            with_reducible rfl
          rotate_left
          · simp only [Act.put, List.setIfInBounds_toArray, List.set_cons_zero, List.set_cons_succ]
            rfl
          refine one_ (i := 8) (N := some 74) #[true, true, true, true, true, true, true, true, true, false, false, false, false, false, false, false, false, false] rfl rfl (one_of HT_.out (by kernel_rfl)) (by decide) (fun Kq_ hK_ => ?_)
          refine goes_ Try.func16 (by kernel_rfl) rfl #[.agg (celA x A1 k1), .agg (celA x A c)] (by rfl) rfl rfl (by (try simp only [List.map_toArray, List.map_cons, List.map_nil]); first | done | rfl) ?_
          with_reducible refine (same_any x x A1 A k1 c _ (Kd.C_below HR1.out HZ.out) (Kd.C_below HRA.out (HBW.out.trans (HZ.out.mono HBW.out.size))) HTX.out.byt HTX.out.byt).mono ?_
          rintro e w' ⟨rfl, hb⟩
          refine ⟨_, rfl, ?_⟩
          rw [sameB_self x]
          replace HZ := Aside0.mk (HZ.out.trans (hb.mono HZ.out.size))
          clear hb
          refine hK_.out _ _ ⟨(HZ.out.block _ (blk_lt HD.out)).trans HD.out, CelIn.below HCI3.out HZ.out⟩ (fun hHeld => ?_)
          clear hK_ Kq_
          refine norm_ (a' := ?_) ?_ ?_
          rotate_left
          · show Act.put _ (some 74) _ = _
            simp only [Act.put, List.setIfInBounds_toArray, List.set_cons_zero, List.set_cons_succ]
            rfl
          refine pure_ (i := 9) (N := some 75) (v := (.bool false)) (a' := ?_) #[true, true, true, true, true, true, true, true, true, true, false, false, false, false, false, false, false, false] rfl rfl (any_of HT_.out (by kernel_rfl)) (fun _ _ _ h => h) (Or.inl ⟨by rfl, ?_⟩) ?_ ?_
          · intro w'
            go_simp
            first | done | rfl | (simp; done) | trace_state
          rotate_left
          · simp only [Act.put, List.setIfInBounds_toArray, List.set_cons_zero, List.set_cons_succ]
            rfl
          refine pure_ (i := 10) (N := some 76) (v := ?_) (a' := ?_) #[true, true, true, true, true, true, true, true, true, true, true, false, false, false, false, false, false, false] rfl rfl (any_of HT_.out (by kernel_rfl)) (fun _ _ _ h => h) (Or.inl ⟨by rfl, ?_⟩) ?_ ?_
          rotate_left
          · intro w'
            go_simp
            with_reducible rfl
          rotate_left
          · simp only [Act.put, List.setIfInBounds_toArray, List.set_cons_zero, List.set_cons_succ]
            rfl
          refine pure_ (i := 11) (N := some 77) (v := ?_) (a' := ?_) #[true, true, true, true, true, true, true, true, true, true, true, true, false, false, false, false, false, false] rfl rfl (any_of HT_.out (by kernel_rfl)) (fun _ _ _ h => h) (Or.inl ⟨by rfl, ?_⟩) ?_ ?_
          rotate_left
          · intro w'
            go_simp
            with_reducible rfl
          rotate_left
          · simp only [Act.put, List.setIfInBounds_toArray, List.set_cons_zero, List.set_cons_succ]
            rfl
          refine pure_ (i := 12) (N := some 78) (v := ?_) (a' := ?_) #[true, true, true, true, true, true, true, true, true, true, true, true, true, false, false, false, false, false] rfl rfl (any_of HT_.out (by kernel_rfl)) (fun _ _ _ h => h) (Or.inl ⟨by rfl, ?_⟩) ?_ ?_
          rotate_left
          · intro w'
            go_simp
            with_reducible rfl
          rotate_left
          · simp only [Act.put, List.setIfInBounds_toArray, List.set_cons_zero, List.set_cons_succ]
            rfl
          refine pure_ (i := 13) (N := some 79) (v := ?_) (a' := ?_) #[true, true, true, true, true, true, true, true, true, true, true, true, true, true, false, false, false, false] rfl rfl (any_of HT_.out (by kernel_rfl)) (fun _ _ _ h => h) (Or.inl ⟨by rfl, ?_⟩) ?_ ?_
          rotate_left
          · intro w'
            go_simp
            with_reducible rfl
          rotate_left
          · simp only [Act.put, List.setIfInBounds_toArray, List.set_cons_zero, List.set_cons_succ]
            rfl
          refine pure_ (i := 14) (N := some 80) (v := ?_) (a' := ?_) #[true, true, true, true, true, true, true, true, true, true, true, true, true, true, true, false, false, false] rfl rfl (any_of HT_.out (by kernel_rfl)) (fun _ _ _ h => h) (Or.inl ⟨by rfl, ?_⟩) ?_ ?_
          rotate_left
          · intro w'
            go_simp
            with_reducible rfl
          rotate_left
          · simp only [Act.put, List.setIfInBounds_toArray, List.set_cons_zero, List.set_cons_succ]
            rfl
          refine pure_ (i := 15) (N := some 81) (v := ?_) (a' := ?_) #[true, true, true, true, true, true, true, true, true, true, true, true, true, true, true, true, false, false] rfl rfl (any_of HT_.out (by kernel_rfl)) (fun _ _ _ h => h) (Or.inl ⟨by rfl, ?_⟩) ?_ ?_
          rotate_left
          · intro w'
            go_simp
            with_reducible rfl
          rotate_left
          · simp only [Act.put, List.setIfInBounds_toArray, List.set_cons_zero, List.set_cons_succ]
            rfl
          refine pure_ (i := 16) (N := some 82) (v := (.bool false)) (a' := ?_) #[true, true, true, true, true, true, true, true, true, true, true, true, true, true, true, true, true, false] rfl rfl (any_of HT_.out (by kernel_rfl)) (fun _ _ _ h => h) (Or.inl ⟨by rfl, ?_⟩) ?_ ?_
          · intro w'
            go_simp
            first | done | omega | exact decide_eq_false (by omega) | (simp; omega) | trace_state
          rotate_left
          · simp only [Act.put, List.setIfInBounds_toArray, List.set_cons_zero, List.set_cons_succ]
            rfl
          refine pure_ (i := 17) (N := some 83) (v := ?_) (a' := ?_) #[true, true, true, true, true, true, true, true, true, true, true, true, true, true, true, true, true, true] rfl rfl (any_of HT_.out (by kernel_rfl)) (fun _ _ _ h => h) (Or.inl ⟨by rfl, ?_⟩) ?_ ?_
          rotate_left
          · intro w'
            go_simp
            with_reducible rfl
          rotate_left
          · simp only [Act.put, List.setIfInBounds_toArray, List.set_cons_zero, List.set_cons_succ]
            rfl
          refine done_ (done_of HT_.out (by kernel_rfl)) ?_
          clear HT_ hHeld
          go_wp2
          go_roundg (gk - 1)
          case measure => omega
          case rel => exact ⟨i + 1, A4, k4, rest, by go_num, rfl, by omega, by omega, HRST, ⟨Kd.C_below HR4.out HZ.out⟩, HK4, ⟨HV.out.trans (HZ.out.mono HV.out.size)⟩⟩
        · have HNIL := Aside0.mk (show r = [] by rw [HRE.out, List.drop_of_length_le (by omega)]; rfl)
          have hr0 : r.length = 0 := by rw [HNIL.out]; rfl
          go_wp2
          go_ret
          exact ⟨rfl, HB.out.trans (HV.out.mono HB.out.size)⟩
end Go.Proofs.Ytbbnjcpeikklgaa.Cell
