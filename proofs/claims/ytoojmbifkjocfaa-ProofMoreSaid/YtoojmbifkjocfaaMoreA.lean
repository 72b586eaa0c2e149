/- ProofMore, one of three ways: there is no answer. Conditions stand in the statement. -/
import Derived.Test.YtoojmbifkjocfaaMoreKit
namespace Go.Proofs.Ytoojmbifkjocfaa.Proof
open Go.RowKit Go.Proofs.YtoojmbifkjocfaaW.PrintWords Go.Proofs.YtoojmbifkjocfaaW.PrintLast Go.Proofs.YtoojmbifkjocfaaW.PrintMore Go.Proofs.Ytoojmbifkjocfaa.Kit Go.Proofs.Ytoojmbifkjocfaa.Plain
set_option linter.unusedVariables false
set_option linter.unusedSimpArgs false
set_option maxHeartbeats 8000000 in
set_option maxRecDepth 100000 in
theorem pmore_a (m : Int) (A4 : Option Addr) (c4 : Nat) (L : List (Int × Bool)) (A : Option Addr) (c : Nat) (ms : List Int) (wh : Int) (q : Nat) (w : World) (hr4 : Kd.C Lk w A4 L.length L) (hr : RdM w A ms.length ms)
    (hm : (Lit.int .u64 m).wf = true) (hL : ∀ p ∈ L, (Lit.int .u64 p.1).wf = true) (hms : ∀ x ∈ ms, (Lit.int .u64 x).wf = true) (h0 : ¬ 40 < L.length) (h1 : ¬ 40 < ms.length) (h2 : ¬ ms.length = 0) (hs : standB m false L ms = true) (hq : (q : Int) = wh % (ms.length : Int)) (hql : q < ms.length) (hw0 : 0 ≤ wh) (hw1 : wh < 256) :
    Calls Try.prog 4 #[.agg #[.int .u64 m, .bool false, .slice A4 L.length c4], .slice A ms.length c, .int .u8 wh] w fun e w' => e = .returned (.bool true) ∧ Below w.heap.size w w' := by
  have HWF := Aside0.mk (And.intro hm (And.intro hL hms))
  have hmx := C_max hr
  have hmx4 := C_max hr4
  have HR := Aside0.mk hr
  have HR4 := Aside0.mk hr4
  clear hr hr4 hm hL hms
  have g0 : decide (40 < (L.length : Int)) = false := decide_eq_false (by omega)
  have g1 : decide (40 < (ms.length : Int)) = false := decide_eq_false (by omega)
  have g2 : ((ms.length : Int) == 0) = false := beq_eq_false_iff_ne.2 (by omega)
  obtain ⟨ad, rfl, hcx⟩ := C_at HR.out q hql
  obtain ⟨x, hx⟩ : ∃ x, x = nth ms q := ⟨_, rfl⟩
  rw [← hx] at hcx
  have HXM := Aside0.mk (show x ∈ ms from hx ▸ nth_mem hql)
  have hq0 : (0 : Int) ≤ (q : Int) := by omega
  have hq1 : (q : Int) < (ms.length : Int) := by omega
  have eq0 : wh % (ms.length : Int) = (q : Int) := hq.symm
  have HCX := Aside0.mk hcx
  clear hx hq hcx
  go_enter Try.func4, Try.ntmps4
  go_wp2_with (first
    | (go_at_call 10; go_must (refine (awake_any _).mono ?_; rintro e w1 ⟨rfl, hb⟩; have HK := Aside0.mk (show w1.heap[w.heap.size]? = some (foundObj m false (.slice A4 L.length c4)) from (hb.block _ (by simp; try omega)).trans (blk_new w _)); have HB := Aside0.mk (one_new hb); (try clear x0 x1 x2); obtain ⟨x0, x1, x2⟩ := found_cells HK.out; clear hb))
    | (go_at_call 11; (with_reducible refine (check_any m false A4 L.length c4 L (some ad) ms.length c ms _ (Kd.C_below HR4.out HB.out) (Kd.C_below HR.out HB.out) HWF.out.1 HWF.out.2.1 HWF.out.2.2).mono ?_); go_must (rintro e w2 ⟨rfl, hb⟩; rw [hs]; replace HK := Aside0.mk ((hb.block _ (blk_lt HK.out)).trans HK.out); (try clear x0 x1 x2); obtain ⟨x0, x1, x2⟩ := found_cells HK.out; replace HB := Aside0.mk (HB.out.trans (hb.mono HB.out.size)); have xq := pw_cell_below HB.out HCX.out; clear hb)))
  obtain ⟨W1, rfl⟩ : ∃ W1 : World, W1 = w2 := ⟨_, rfl⟩
  replace HR := Aside0.mk (Kd.C_below HR.out HB.out)
  replace HR4 := Aside0.mk (Kd.C_below HR4.out HB.out)
  have HX0 := Aside0.mk x0
  have HX1 := Aside0.mk x1
  have HX2 := Aside0.mk x2
  clear x0 x1 HCX HK xq
  go_loopg [8] L.length (fun gk v w' => ∃ i : Nat, v = .int .i64 (i : Int) ∧ i + gk = L.length ∧ Aside0 (∀ i', i' < i → (gd L i').1 ≠ x) ∧ W1 = w')
  case atStart => exact ⟨0, rfl, by omega, ⟨fun i' hi' => by omega⟩, rfl⟩
  case round =>
    obtain ⟨i, rfl, hig, HN, rfl⟩ := hrel
    by_cases hi : i < L.length
    · obtain ⟨a4, rfl, hc1⟩ := C_flat HR4.out (0, false) i hi
      have g3 : W1.cell? (a4.add (i * 2)) = some (.int .u64 (gd L i).1) := hc1 0 _ rfl
      have hk0 : (0 : Int) ≤ (i : Int) := by omega
      have hk1 : (i : Int) < (L.length : Int) := by omega
      clear hc1
      by_cases he : (gd L i).1 = x
      · have f9 : ((gd L i).1 == x) = true := beq_iff_eq.2 he
        have HE := Aside0.mk he
        clear he
        go_wp2
        go_ret
        exact ⟨rfl, HB.out⟩
      · have f9 : ((gd L i).1 == x) = false := beq_eq_false_iff_ne.2 he
        have HE := Aside0.mk he
        clear he
        go_wp2
        go_roundg (gk - 1)
        case measure => omega
        case rel => exact ⟨i + 1, by go_num, by omega, ⟨fun i' hi' => by
          rcases Nat.lt_or_ge i' i with h | h
          · exact HN.out i' h
          · obtain rfl : i' = i := by omega
            exact HE.out⟩, rfl⟩
    · obtain rfl : i = L.length := by omega
      have HNE := Aside0.mk (show ∀ p ∈ L, p.1 ≠ x from fun p hp => by
        obtain ⟨i', hi', rfl⟩ := List.getElem_of_mem hp
        rw [← gd_eq hi']
        exact HN.out i' hi')
      have HV := Aside0.mk (Below.refl W1.heap.size W1)
      clear HN
      have x0 := HX0.out
      have x1 := HX1.out
      have HS1 := Aside0.mk (more_stands hs HXM.out HNE.out (b := true) rfl)
      have HS2 := Aside0.mk (less_falls hs HXM.out HNE.out (b := false) rfl)
      go_wp2_with (fail)
      refine start_ (n := 16) (S := fun w' => w'.cell? ⟨w.heap.size, 0, none⟩ = some (.int .u64 m) ∧ w'.cell? ⟨w.heap.size, 1, none⟩ = some (.bool false) ∧ w'.cell? ⟨w.heap.size, 2, none⟩ = some (.slice A4 L.length c4)) (ds := []) #[f,f,f,f,f,f,f,f,f,f,f,f,f,f,f,f] (by kernel_rfl) rfl rfl ⟨pw_cell_below (below_drew HV.out) HX0.out, pw_cell_below (below_drew HV.out) HX1.out, pw_cell_below (below_drew HV.out) HX2.out⟩ (fun hHeld => ?_); refine with_tab tabM12_ok (fun HT_ => ?_)
      have hb : Below W1.heap.size W1 W1.drew := below_drew (Below.refl _ _)
      replace HV := Aside0.mk (HV.out.trans (hb.mono HV.out.size))
      clear hb
      refine pure_ (i := 0) (N := some 66) (v := ?_) (a' := ?_) #[t,f,f,f,f,f,f,f,f,f,f,f,f,f,f,f] rfl rfl (any_of HT_.out (by kernel_rfl)) (fun _ _ _ h => h) (Or.inl ⟨by rfl, ?_⟩) ?_ ?_
      rotate_left; · intro w'; go_simp; with_reducible rfl
      rotate_left; · simp only [Act.put, List.setIfInBounds_toArray, List.set_cons_zero, List.set_cons_succ]; rfl
      refine take_ (i := 1) (N := some 67) (v := ?_) (a' := ?_) #[t,t,f,f,f,f,f,f,f,f,f,f,f,f,f,f] rfl rfl (take_of HT_.out (by kernel_rfl)) (fun _ _ _ h => h) (Or.inl ⟨by rfl, ?_⟩) hHeld ?_ ?_
      rotate_left; · intro w' hw'; obtain ⟨s0, s1, s2⟩ := hw'; go_simp; with_reducible rfl
      rotate_left; · simp only [Act.put, List.setIfInBounds_toArray, List.set_cons_zero, List.set_cons_succ]; rfl
      refine pure_ (i := 2) (N := some 68) (v := ?_) (a' := ?_) #[t,t,t,f,f,f,f,f,f,f,f,f,f,f,f,f] rfl rfl (any_of HT_.out (by kernel_rfl)) (fun _ _ _ h => h) (Or.inl ⟨by rfl, ?_⟩) ?_ ?_
      rotate_left; · intro w'; go_simp; with_reducible rfl
      rotate_left; · simp only [Act.put, List.setIfInBounds_toArray, List.set_cons_zero, List.set_cons_succ]; rfl
      refine take_ (i := 3) (N := some 69) (v := ?_) (a' := ?_) #[t,t,t,t,f,f,f,f,f,f,f,f,f,f,f,f] rfl rfl (take_of HT_.out (by kernel_rfl)) (fun _ _ _ h => h) (Or.inl ⟨by rfl, ?_⟩) hHeld ?_ ?_
      rotate_left; · intro w' hw'; obtain ⟨s0, s1, s2⟩ := hw'; go_simp; with_reducible rfl
      rotate_left; · simp only [Act.put, List.setIfInBounds_toArray, List.set_cons_zero, List.set_cons_succ]; rfl
      refine pure_ (i := 5) (N := some 71) (v := ?_) (a' := ?_) #[t,t,t,t,f,t,f,f,f,f,f,f,f,f,f,f] rfl rfl (any_of HT_.out (by kernel_rfl)) (fun _ _ _ h => h) (Or.inl ⟨by rfl, ?_⟩) ?_ ?_
      rotate_left; · intro w'; go_simp; with_reducible rfl
      rotate_left; · simp only [Act.put, List.setIfInBounds_toArray, List.set_cons_zero, List.set_cons_succ]; rfl
      refine take_ (i := 6) (N := some 72) (v := ?_) (a' := ?_) #[t,t,t,t,f,t,t,f,f,f,f,f,f,f,f,f] rfl rfl (take_of HT_.out (by kernel_rfl)) (fun _ _ _ h => h) (Or.inl ⟨by rfl, ?_⟩) hHeld ?_ ?_
      rotate_left; · intro w' hw'; obtain ⟨s0, s1, s2⟩ := hw'; go_simp; with_reducible rfl
      rotate_left; · simp only [Act.put, List.setIfInBounds_toArray, List.set_cons_zero, List.set_cons_succ]; rfl
      refine pure_ (i := 8) (N := some 74) (v := ?_) (a' := ?_) #[t,t,t,t,f,t,t,f,t,f,f,f,f,f,f,f] rfl rfl (any_of HT_.out (by kernel_rfl)) (fun _ _ _ h => h) (Or.inl ⟨by rfl, ?_⟩) ?_ ?_
      rotate_left; · intro w'; go_simp; with_reducible rfl
      rotate_left; · simp only [Act.put, List.setIfInBounds_toArray, List.set_cons_zero, List.set_cons_succ]; rfl
      refine pure_ (i := 9) (N := some 75) (v := ?_) (a' := ?_) #[t,t,t,t,f,t,t,f,t,t,f,f,f,f,f,f] rfl rfl (any_of HT_.out (by kernel_rfl)) (fun _ _ _ h => h) (Or.inl ⟨by rfl, ?_⟩) ?_ ?_
      rotate_left; · intro w'; go_simp; with_reducible rfl
      rotate_left; · simp only [Act.put, List.setIfInBounds_toArray, List.set_cons_zero, List.set_cons_succ]; rfl
      refine pure_ (i := 10) (N := some 76) (v := ?_) (a' := ?_) #[t,t,t,t,f,t,t,f,t,t,t,f,f,f,f,f] rfl rfl (any_of HT_.out (by kernel_rfl)) (fun _ _ _ h => h) (Or.inl ⟨by rfl, ?_⟩) ?_ ?_
      rotate_left; · intro w'; go_simp; with_reducible rfl
      rotate_left; · simp only [Act.put, List.setIfInBounds_toArray, List.set_cons_zero, List.set_cons_succ]; rfl
      refine join_ (σ := Value × Value × Option Addr × Nat × Nat × Nat) 1 #[t,t,t,t,t,t,t,t,t,t,t,t,t,t,t,f] (fun s => [(70, s.1), (73, s.2.1), (77, .slice (some ⟨s.2.2.2.2.1, 0, none⟩) 1 1), (78, .slice s.2.2.1 (L.length + 1) s.2.2.2.1), (79, .agg #[.int .u64 m, .bool false, .slice s.2.2.1 (L.length + 1) s.2.2.2.1]), (10, .pointer (some ⟨s.2.2.2.2.2, 0, none⟩))]) (fun s w' => Kd.R Lk 35 w' W1.heap.size (fun k => k ≠ s.2.2.2.2.2) (.slice s.2.2.1 (L.length + 1) s.2.2.2.1) (L ++ [(x, true)]) ∧ w'.heap[s.2.2.2.2.2]? = some (foundObj 0 false (.slice none 0 0)) ∧ Below W1.heap.size W1 w' ∧ W1.heap.size ≤ s.2.2.2.2.2) ?hcont (fun hc_ => ?_)
      case hcont =>
        clear hHeld HV
        rintro ⟨v70, v73, A9, c9, kx, kg⟩ wj ⟨hO, hG, hV, hGK⟩
        simp only at hO hG hGK
        have HO := Aside0.mk hO
        have HGB := Aside0.mk hG
        have HV := Aside0.mk hV
        have HGK := Aside0.mk hGK
        have y0 : wj.cell? ⟨kg, 0, none⟩ = some (.int .u64 0) := blk_cell hG 0
        have y1 : wj.cell? ⟨kg, 1, none⟩ = some (.bool false) := blk_cell hG 1
        have y2 : wj.cell? ⟨kg, 2, none⟩ = some (.slice none 0 0) := blk_cell hG 2
        have z0 : wj.frozen? ⟨kg, 0, none⟩ = false := blk_frozen hG 0
        have z1 : wj.frozen? ⟨kg, 1, none⟩ = false := blk_frozen hG 1
        have z2 : wj.frozen? ⟨kg, 2, none⟩ = false := blk_frozen hG 2
        clear hO hG hV hGK
        refine norm_ (a' := ?_) ?_ ?_
        rotate_left
        · simp only [putAll, Act.put, List.setIfInBounds_toArray, List.set_cons_zero, List.set_cons_succ]
          rfl
        refine one_ (i := 15) (N := none) #[t,t,t,t,t,t,t,t,t,t,t,t,t,t,t,t] rfl rfl (one_of HT_.out (by kernel_rfl)) (by decide) (fun Kq_ hK_ => ?_)
        refine skip_ (w1 := ?_) (by rfl) rfl ?_ ?_
        rotate_left
        · go_simp
          first | done | rfl
        have HV2 := Aside0.mk (((HV.out.setCell HGK.out (.int .u64 m) : Below W1.heap.size W1 (wj.setCell ⟨kg, 0, none⟩ (.int .u64 m))).setCell HGK.out (.bool false) : Below W1.heap.size W1 ((wj.setCell ⟨kg, 0, none⟩ (.int .u64 m)).setCell ⟨kg, 1, none⟩ (.bool false))).setCell HGK.out (.slice A9 (L.length + 1) c9) : Below W1.heap.size W1 (((wj.setCell ⟨kg, 0, none⟩ (.int .u64 m)).setCell ⟨kg, 1, none⟩ (.bool false)).setCell ⟨kg, 2, none⟩ (.slice A9 (L.length + 1) c9)))
        have HGB2 := Aside0.mk (blk_set (blk_set (blk_set HGB.out 0 (.int .u64 m)) 1 (.bool false)) 2 (.slice A9 (L.length + 1) c9))
        have HO2 := Aside0.mk (R_set_far (i := 2) (u := .slice A9 (L.length + 1) c9) (R_set_far (i := 1) (u := .bool false) (R_set_far (i := 0) (u := .int .u64 m) HO.out (fun k hk => hk)) (fun k hk => hk)) (fun k hk => hk))
        refine hK_.out _ _ ⟨pw_cell_below HV2.out HX0.out, pw_cell_below HV2.out HX1.out, pw_cell_below HV2.out HX2.out⟩ (fun hHeld => ?_)
        clear hK_ Kq_
        refine done_ (done_of HT_.out (by kernel_rfl)) ?_
        clear HT_ hHeld
        obtain ⟨W0, rfl⟩ : ∃ W0 : World, W0 = W1 := ⟨_, rfl⟩
        obtain ⟨W1, hW1⟩ : ∃ W1, W1 = (((wj.setCell ⟨kg, 0, none⟩ (.int .u64 m)).setCell ⟨kg, 1, none⟩ (.bool false)).setCell ⟨kg, 2, none⟩ (.slice A9 (L.length + 1) c9)) := ⟨_, rfl⟩
        rw [← hW1] at HV2 HGB2 HO2 ⊢
        clear hW1 HV HO HGB HGK y0 y1 y2 z0 z1 z2
        obtain ⟨k8, rfl⟩ : ∃ k8 : Nat, k8 = kg := ⟨_, rfl⟩
        obtain ⟨A8, rfl⟩ : ∃ A8 : Option Addr, A8 = A9 := ⟨_, rfl⟩
        obtain ⟨c8, rfl⟩ : ∃ c8 : Nat, c8 = c9 := ⟨_, rfl⟩
        replace HB := Aside0.mk (HB.out.trans (HV2.out.mono HB.out.size))
        replace HR := Aside0.mk (Kd.C_below HR.out HV2.out)
        replace HR4 := Aside0.mk (Kd.C_below HR4.out HV2.out)
        replace HX0 := Aside0.mk (pw_cell_below HV2.out HX0.out)
        replace HX1 := Aside0.mk (pw_cell_below HV2.out HX1.out)
        replace HX2 := Aside0.mk (pw_cell_below HV2.out HX2.out)
        have HC1a := Aside0.mk (Kd.R_reads' HO2.out).2.2
        rw [List.length_append, List.length_singleton] at HC1a
        have HGB1 := HGB2
        clear HV2 HGB2 HO2
        have HV := Aside0.mk (Below.refl W1.heap.size W1)
        go_wp2_with (fail)
        refine start_ (n := 17) (S := fun w' => w'.cell? ⟨w.heap.size, 0, none⟩ = some (.int .u64 m) ∧ w'.cell? ⟨w.heap.size, 1, none⟩ = some (.bool false) ∧ w'.cell? ⟨w.heap.size, 2, none⟩ = some (.slice A4 L.length c4)) (ds := []) #[f,f,f,f,f,f,f,f,f,f,f,f,f,f,f,f,f] (by kernel_rfl) rfl rfl ⟨pw_cell_below (below_drew HV.out) HX0.out, pw_cell_below (below_drew HV.out) HX1.out, pw_cell_below (below_drew HV.out) HX2.out⟩ (fun hHeld => ?_); refine with_tab tabM13_ok (fun HT_ => ?_)
        have hb : Below W1.heap.size W1 W1.drew := below_drew (Below.refl _ _)
        replace HV := Aside0.mk (HV.out.trans (hb.mono HV.out.size))
        clear hb
        refine pure_ (i := 0) (N := some 80) (v := ?_) (a' := ?_) #[t,f,f,f,f,f,f,f,f,f,f,f,f,f,f,f,f] rfl rfl (any_of HT_.out (by kernel_rfl)) (fun _ _ _ h => h) (Or.inl ⟨by rfl, ?_⟩) ?_ ?_
        rotate_left; · intro w'; go_simp; with_reducible rfl
        rotate_left; · simp only [Act.put, List.setIfInBounds_toArray, List.set_cons_zero, List.set_cons_succ]; rfl
        refine take_ (i := 1) (N := some 81) (v := ?_) (a' := ?_) #[t,t,f,f,f,f,f,f,f,f,f,f,f,f,f,f,f] rfl rfl (take_of HT_.out (by kernel_rfl)) (fun _ _ _ h => h) (Or.inl ⟨by rfl, ?_⟩) hHeld ?_ ?_
        rotate_left; · intro w' hw'; obtain ⟨s0, s1, s2⟩ := hw'; go_simp; with_reducible rfl
        rotate_left; · simp only [Act.put, List.setIfInBounds_toArray, List.set_cons_zero, List.set_cons_succ]; rfl
        refine pure_ (i := 2) (N := some 82) (v := ?_) (a' := ?_) #[t,t,t,f,f,f,f,f,f,f,f,f,f,f,f,f,f] rfl rfl (any_of HT_.out (by kernel_rfl)) (fun _ _ _ h => h) (Or.inl ⟨by rfl, ?_⟩) ?_ ?_
        rotate_left; · intro w'; go_simp; with_reducible rfl
        rotate_left; · simp only [Act.put, List.setIfInBounds_toArray, List.set_cons_zero, List.set_cons_succ]; rfl
        refine take_ (i := 3) (N := some 83) (v := ?_) (a' := ?_) #[t,t,t,t,f,f,f,f,f,f,f,f,f,f,f,f,f] rfl rfl (take_of HT_.out (by kernel_rfl)) (fun _ _ _ h => h) (Or.inl ⟨by rfl, ?_⟩) hHeld ?_ ?_
        rotate_left; · intro w' hw'; obtain ⟨s0, s1, s2⟩ := hw'; go_simp; with_reducible rfl
        rotate_left; · simp only [Act.put, List.setIfInBounds_toArray, List.set_cons_zero, List.set_cons_succ]; rfl
        refine pure_ (i := 5) (N := some 85) (v := ?_) (a' := ?_) #[t,t,t,t,f,t,f,f,f,f,f,f,f,f,f,f,f] rfl rfl (any_of HT_.out (by kernel_rfl)) (fun _ _ _ h => h) (Or.inl ⟨by rfl, ?_⟩) ?_ ?_
        rotate_left; · intro w'; go_simp; with_reducible rfl
        rotate_left; · simp only [Act.put, List.setIfInBounds_toArray, List.set_cons_zero, List.set_cons_succ]; rfl
        refine take_ (i := 6) (N := some 86) (v := ?_) (a' := ?_) #[t,t,t,t,f,t,t,f,f,f,f,f,f,f,f,f,f] rfl rfl (take_of HT_.out (by kernel_rfl)) (fun _ _ _ h => h) (Or.inl ⟨by rfl, ?_⟩) hHeld ?_ ?_
        rotate_left; · intro w' hw'; obtain ⟨s0, s1, s2⟩ := hw'; go_simp; with_reducible rfl
        rotate_left; · simp only [Act.put, List.setIfInBounds_toArray, List.set_cons_zero, List.set_cons_succ]; rfl
        refine pure_ (i := 8) (N := some 88) (v := ?_) (a' := ?_) #[t,t,t,t,f,t,t,f,t,f,f,f,f,f,f,f,f] rfl rfl (any_of HT_.out (by kernel_rfl)) (fun _ _ _ h => h) (Or.inl ⟨by rfl, ?_⟩) ?_ ?_
        rotate_left; · intro w'; go_simp; with_reducible rfl
        rotate_left; · simp only [Act.put, List.setIfInBounds_toArray, List.set_cons_zero, List.set_cons_succ]; rfl
        refine pure_ (i := 9) (N := some 89) (v := ?_) (a' := ?_) #[t,t,t,t,f,t,t,f,t,t,f,f,f,f,f,f,f] rfl rfl (any_of HT_.out (by kernel_rfl)) (fun _ _ _ h => h) (Or.inl ⟨by rfl, ?_⟩) ?_ ?_
        rotate_left; · intro w'; go_simp; with_reducible rfl
        rotate_left; · simp only [Act.put, List.setIfInBounds_toArray, List.set_cons_zero, List.set_cons_succ]; rfl
        refine pure_ (i := 10) (N := some 90) (v := ?_) (a' := ?_) #[t,t,t,t,f,t,t,f,t,t,t,f,f,f,f,f,f] rfl rfl (any_of HT_.out (by kernel_rfl)) (fun _ _ _ h => h) (Or.inl ⟨by rfl, ?_⟩) ?_ ?_
        rotate_left; · intro w'; go_simp; with_reducible rfl
        rotate_left; · simp only [Act.put, List.setIfInBounds_toArray, List.set_cons_zero, List.set_cons_succ]; rfl
        refine pure_ (i := 11) (N := some 91) (v := ?_) (a' := ?_) #[t,t,t,t,f,t,t,f,t,t,t,t,f,f,f,f,f] rfl rfl (any_of HT_.out (by kernel_rfl)) (fun _ _ _ h => h) (Or.inl ⟨by rfl, ?_⟩) ?_ ?_
        rotate_left; · intro w'; go_simp; with_reducible rfl
        rotate_left; · simp only [Act.put, List.setIfInBounds_toArray, List.set_cons_zero, List.set_cons_succ]; rfl
        refine join_ (σ := Value × Value × Option Addr × Nat × Nat × Nat) 1 #[t,t,t,t,t,t,t,t,t,t,t,t,t,t,t,t,f] (fun s => [(84, s.1), (87, s.2.1), (92, .slice (some ⟨s.2.2.2.2.1, 0, none⟩) 1 1), (93, .slice s.2.2.1 (L.length + 1) s.2.2.2.1), (94, .agg #[.int .u64 m, .bool false, .slice s.2.2.1 (L.length + 1) s.2.2.2.1]), (11, .pointer (some ⟨s.2.2.2.2.2, 0, none⟩))]) (fun s w' => Kd.R Lk 35 w' W1.heap.size (fun k => k ≠ s.2.2.2.2.2) (.slice s.2.2.1 (L.length + 1) s.2.2.2.1) (L ++ [(x, false)]) ∧ w'.heap[s.2.2.2.2.2]? = some (foundObj 0 false (.slice none 0 0)) ∧ Below W1.heap.size W1 w' ∧ W1.heap.size ≤ s.2.2.2.2.2) ?hcont (fun hc_ => ?_)
        case hcont =>
          clear hHeld HV
          rintro ⟨v70, v73, A9, c9, kx, kg⟩ wj ⟨hO, hG, hV, hGK⟩
          simp only at hO hG hGK
          have HO := Aside0.mk hO
          have HGB := Aside0.mk hG
          have HV := Aside0.mk hV
          have HGK := Aside0.mk hGK
          have y0 : wj.cell? ⟨kg, 0, none⟩ = some (.int .u64 0) := blk_cell hG 0
          have y1 : wj.cell? ⟨kg, 1, none⟩ = some (.bool false) := blk_cell hG 1
          have y2 : wj.cell? ⟨kg, 2, none⟩ = some (.slice none 0 0) := blk_cell hG 2
          have z0 : wj.frozen? ⟨kg, 0, none⟩ = false := blk_frozen hG 0
          have z1 : wj.frozen? ⟨kg, 1, none⟩ = false := blk_frozen hG 1
          have z2 : wj.frozen? ⟨kg, 2, none⟩ = false := blk_frozen hG 2
          clear hO hG hV hGK
          refine norm_ (a' := ?_) ?_ ?_
          rotate_left
          · simp only [putAll, Act.put, List.setIfInBounds_toArray, List.set_cons_zero, List.set_cons_succ]
            rfl
          refine one_ (i := 16) (N := none) #[t,t,t,t,t,t,t,t,t,t,t,t,t,t,t,t,t] rfl rfl (one_of HT_.out (by kernel_rfl)) (by decide) (fun Kq_ hK_ => ?_)
          refine skip_ (w1 := ?_) (by rfl) rfl ?_ ?_
          rotate_left
          · go_simp
            first | done | rfl
          have HV2 := Aside0.mk (((HV.out.setCell HGK.out (.int .u64 m) : Below W1.heap.size W1 (wj.setCell ⟨kg, 0, none⟩ (.int .u64 m))).setCell HGK.out (.bool false) : Below W1.heap.size W1 ((wj.setCell ⟨kg, 0, none⟩ (.int .u64 m)).setCell ⟨kg, 1, none⟩ (.bool false))).setCell HGK.out (.slice A9 (L.length + 1) c9) : Below W1.heap.size W1 (((wj.setCell ⟨kg, 0, none⟩ (.int .u64 m)).setCell ⟨kg, 1, none⟩ (.bool false)).setCell ⟨kg, 2, none⟩ (.slice A9 (L.length + 1) c9)))
          have HGB2 := Aside0.mk (blk_set (blk_set (blk_set HGB.out 0 (.int .u64 m)) 1 (.bool false)) 2 (.slice A9 (L.length + 1) c9))
          have HO2 := Aside0.mk (R_set_far (i := 2) (u := .slice A9 (L.length + 1) c9) (R_set_far (i := 1) (u := .bool false) (R_set_far (i := 0) (u := .int .u64 m) HO.out (fun k hk => hk)) (fun k hk => hk)) (fun k hk => hk))
          refine hK_.out _ _ ⟨pw_cell_below HV2.out HX0.out, pw_cell_below HV2.out HX1.out, pw_cell_below HV2.out HX2.out⟩ (fun hHeld => ?_)
          clear hK_ Kq_
          refine done_ (done_of HT_.out (by kernel_rfl)) ?_
          clear HT_ hHeld
          obtain ⟨W6, hW6⟩ : ∃ W6, W6 = (((wj.setCell ⟨kg, 0, none⟩ (.int .u64 m)).setCell ⟨kg, 1, none⟩ (.bool false)).setCell ⟨kg, 2, none⟩ (.slice A9 (L.length + 1) c9)) := ⟨_, rfl⟩
          rw [← hW6] at HV2 HGB2 HO2 ⊢
          clear hW6
          obtain ⟨u0, u1, u2⟩ := found_cells HGB2.out
          obtain ⟨t0, t1, t2⟩ := found_cells ((HV2.out.block _ (blk_lt HGB1.out)).trans HGB1.out)
          have HC1 := Aside0.mk (Kd.C_below HC1a.out HV2.out)
          have HC2 := Aside0.mk (Kd.R_reads' HO2.out).2.2
          rw [List.length_append, List.length_singleton] at HC2
          go_wp2_with (go_at_call 11; first
            | ((with_reducible refine (check_any m false A8 (L.length + 1) c8 (L ++ [(x, true)]) (some ad) ms.length c ms _ HC1.out (Kd.C_below HR.out HV2.out) HWF.out.1 (wf_snoc HWF.out.2.1 (HWF.out.2.2 _ HXM.out)) HWF.out.2.2).mono ?_); go_must (rintro e w8 ⟨rfl, hb⟩; rw [HS1.out]; replace u0 := pw_cell_below hb u0; replace u1 := pw_cell_below hb u1; replace u2 := pw_cell_below hb u2; have HV8 := Aside0.mk (HV2.out.trans (hb.mono HV2.out.size)); replace HC2 := Aside0.mk (Kd.C_below HC2.out hb); clear hb))
            | go_must (refine (check_any m false A9 (L.length + 1) c9 (L ++ [(x, false)]) (some ad) ms.length c ms _ HC2.out (Kd.C_below HR.out HV8.out) HWF.out.1 (wf_snoc HWF.out.2.1 (HWF.out.2.2 _ HXM.out)) HWF.out.2.2).mono ?_; rintro e w9 ⟨rfl, hb⟩; rw [HS2.out]; have HV9 := Aside0.mk (HV8.out.trans (hb.mono HV8.out.size)); clear hb))
          go_ret
          exact ⟨rfl, HB.out.trans (HV9.out.mono HB.out.size)⟩
        refine three_ (i := 4) (j := 12) (k := 15) (Ni := some 84) (Nj := some 92) (Nk := some 11) #[t,t,t,t,t,t,t,f,t,t,t,t,f,f,f,f,f] #[t,t,t,t,f,t,t,f,t,t,t,t,t,f,f,f,f] #[t,t,t,t,f,t,t,f,t,t,t,t,f,f,f,t,f] rfl rfl rfl rfl rfl rfl (three_of HT_.out (by kernel_rfl)) (by decide) (by decide) (by decide) (fun Kq_ hK_ => ?_) (fun Kq_ hK_ => ?_) (fun Kq_ hK_ => ?_)
        · refine Kd.R_lit_step Lk (w0 := W1) W1.heap.size 35 (by rfl) (N := 84) rfl (xs := []) (inner := []) (ok := fun _ => True) (okp := fun _ => True) ?hr (by constructor <;> simp) (fun _ hk => hk) trivial HV.out HV.out.size (by simp) ?_
          (case hr => first | (go_simp; done) | (go_simp; rfl))
          intro v70 w4 ho hb hg hat
          have HO := Aside0.mk ho
          replace HV := Aside0.mk hb
          clear ho hb hg hat
          refine hK_.out _ _ ⟨pw_cell_below HV.out HX0.out, pw_cell_below HV.out HX1.out, pw_cell_below HV.out HX2.out⟩ (fun hHeld => ?_)
          clear hK_ Kq_
          refine norm_ (a' := ?_) ?_ ?_
          rotate_left
          · show Act.put _ (some 84) _ = _
            simp only [Act.put, List.setIfInBounds_toArray, List.set_cons_zero, List.set_cons_succ]
            rfl
          refine three_ (i := 7) (j := 12) (k := 15) (Ni := some 87) (Nj := some 92) (Nk := some 11) #[t,t,t,t,t,t,t,t,t,t,t,t,f,f,f,f,f] #[t,t,t,t,t,t,t,f,t,t,t,t,t,f,f,f,f] #[t,t,t,t,t,t,t,f,t,t,t,t,f,f,f,t,f] rfl rfl rfl rfl rfl rfl (three_of HT_.out (by kernel_rfl)) (by decide) (by decide) (by decide) (fun Kq_ hK_ => ?_) (fun Kq_ hK_ => ?_) (fun Kq_ hK_ => ?_)
          · refine Kd.R_append_rows_step Lk (w0 := W1) W1.heap.size (by rfl) (.tmp 84) (.tmp 86) 23 35 (.agg #[.int .u64 0, .bool false]) 16 rfl Try.underlying23 infoLk rfl Nat.two_pos (by omega) v70 [] L A4 L.length c4 (fun _ => True) (fun _ => False) rfl rfl HO.out (Kd.C_below HR4.out HV.out) (fun _ _ hh => hh) (fun _ hk => hk.elim) (fun _ _ => trivial) HV.out HV.out.size (by simp; omega) ?_
            intro v73 w7 ho hb hg hat
            clear HO
            have HO := Aside0.mk ho
            replace HV := Aside0.mk hb
            clear ho hb hg hat
            refine hK_.out _ _ ⟨pw_cell_below HV.out HX0.out, pw_cell_below HV.out HX1.out, pw_cell_below HV.out HX2.out⟩ (fun hHeld => ?_)
            clear hK_ Kq_
            refine norm_ (a' := ?_) ?_ ?_
            rotate_left
            · show Act.put _ (some 87) _ = _
              simp only [Act.put, List.setIfInBounds_toArray, List.set_cons_zero, List.set_cons_succ]
              rfl
            refine two_ (i := 12) (j := 15) (Ni := some 92) (Nj := some 11) #[t,t,t,t,t,t,t,t,t,t,t,t,t,f,f,f,f] #[t,t,t,t,t,t,t,t,t,t,t,t,f,f,f,t,f] rfl rfl rfl rfl (two_of HT_.out (by kernel_rfl)) (by decide) (by decide) (fun Kq_ hK_ => ?_) (fun Kq_ hK_ => ?_)
            · refine newcells_ (.cells #[.int .u64 x, .bool false] 35) (fun k => .slice (some ⟨k, 0, none⟩) 1 1) (by rfl) rfl ?hr ?_
              (case hr => first | (go_simp; done) | (go_simp; rfl))
              intro kx W' hk_ hnew hb
              replace HO := Aside0.mk (show Kd.R Lk 35 W' W1.heap.size (fun k => k ≠ kx) v73 ([] ++ L) from Kd.R_mono (Kd.R_below (Kd.R_bound HO.out) hb) (fun k hk => by have h1 := hk.2.2.1; omega))
              have HXB := Aside0.mk hnew
              replace HV := Aside0.mk (HV.out.trans (hb.mono HV.out.size))
              clear hk_ hnew hb
              refine hK_.out _ _ ⟨pw_cell_below HV.out HX0.out, pw_cell_below HV.out HX1.out, pw_cell_below HV.out HX2.out⟩ (fun hHeld => ?_)
              clear hK_ Kq_
              refine norm_ (a' := ?_) ?_ ?_
              rotate_left
              · show Act.put _ (some 92) _ = _
                simp only [Act.put, List.setIfInBounds_toArray, List.set_cons_zero, List.set_cons_succ]
                rfl
              refine two_ (i := 13) (j := 15) (Ni := some 93) (Nj := some 11) #[t,t,t,t,t,t,t,t,t,t,t,t,t,t,f,f,f] #[t,t,t,t,t,t,t,t,t,t,t,t,t,f,f,t,f] rfl rfl rfl rfl (two_of HT_.out (by kernel_rfl)) (by decide) (by decide) (fun Kq_ hK_ => ?_) (fun Kq_ hK_ => ?_)
              · refine Kd.R_append_rows_step Lk (w0 := W1) W1.heap.size (by rfl) (.tmp 87) (.tmp 92) 23 35 (.agg #[.int .u64 0, .bool false]) 16 rfl Try.underlying23 infoLk rfl Nat.two_pos (by omega) v73 ([] ++ L) [(x, false)] (some ⟨kx, 0, none⟩) 1 1 (fun k => k ≠ kx) (fun _ => False) rfl rfl HO.out (C_oneLk HXB.out) (fun _ _ hh => hh) (fun _ hk => hk.elim) (fun k hk => by have h1 := blk_lt HXB.out; omega) HV.out HV.out.size (by simp; omega) ?_
                intro v78 w7 ho hb hg hat
                replace HXB := Aside0.mk (blk_grown HXB.out hg (fun he => HO.out.1 _ he.symm rfl))
                obtain ⟨A9, c9, rfl⟩ := Kd.R_slice ho
                obtain ⟨n9, hn9⟩ : ∃ n9, n9 = ([] ++ L ++ [(x, false)]).length := ⟨_, rfl⟩
                rw [← hn9] at ho ⊢
                obtain rfl : n9 = L.length + 1 := by rw [hn9]; simp
                rw [List.nil_append] at ho
                clear hn9
                clear HO
                have HO := Aside0.mk ho
                replace HV := Aside0.mk hb
                clear ho hb hg hat
                refine hK_.out _ _ ⟨pw_cell_below HV.out HX0.out, pw_cell_below HV.out HX1.out, pw_cell_below HV.out HX2.out⟩ (fun hHeld => ?_)
                clear hK_ Kq_
                refine norm_ (a' := ?_) ?_ ?_
                rotate_left
                · show Act.put _ (some 93) _ = _
                  simp only [Act.put, List.setIfInBounds_toArray, List.set_cons_zero, List.set_cons_succ]
                  rfl
                refine pure_ (i := 14) (N := some 94) (v := ?_) (a' := ?_) #[t,t,t,t,t,t,t,t,t,t,t,t,t,t,t,f,f] rfl rfl (any_of HT_.out (by kernel_rfl)) (fun _ _ _ h => h) (Or.inl ⟨by rfl, ?_⟩) ?_ ?_
                rotate_left; · intro w'; go_simp; with_reducible rfl
                rotate_left; · simp only [Act.put, List.setIfInBounds_toArray, List.set_cons_zero, List.set_cons_succ]; rfl
                refine one_ (i := 15) (N := some 11) #[t,t,t,t,t,t,t,t,t,t,t,t,t,t,t,t,f] rfl rfl (one_of HT_.out (by kernel_rfl)) (by decide) (fun Kq_ hK_ => ?_)
                refine newcells_ (.cells #[.int .u64 0, .bool false, .slice none 0 0] 25) (fun k => .pointer (some ⟨k, 0, none⟩)) (by rfl) rfl ?hr ?_
                (case hr => first | (go_simp; done) | (go_simp; rfl))
                intro kg W' hk_ hnew hb
                replace HO := Aside0.mk (Kd.R_below HO.out hb)
                replace HXB := Aside0.mk ((hb.block _ (blk_lt HXB.out)).trans HXB.out)
                have HGK := Aside0.mk (show W1.heap.size ≤ kg from by have h1 := HV.out.size; omega)
                have HGB := Aside0.mk hnew
                replace HV := Aside0.mk (HV.out.trans (hb.mono HV.out.size))
                clear hk_ hnew hb
                refine hK_.out _ _ ⟨pw_cell_below HV.out HX0.out, pw_cell_below HV.out HX1.out, pw_cell_below HV.out HX2.out⟩ (fun hHeld => ?_)
                clear hK_ Kq_
                refine norm_ (a' := ?_) ?_ ?_
                rotate_left
                · show Act.put _ (some 11) _ = _
                  simp only [Act.put, List.setIfInBounds_toArray, List.set_cons_zero, List.set_cons_succ]
                  rfl
                have h_ := hc_ (v70, v73, A9, c9, kx, kg) _ ⟨R_not_found HO.out HGB.out, HGB.out, HV.out, HGK.out⟩
                simp only [putAll, Act.put, List.setIfInBounds_toArray, List.set_cons_zero, List.set_cons_succ] at h_
                exact h_
              · refine newcells_ (.cells #[.int .u64 0, .bool false, .slice none 0 0] 25) (fun k => .pointer (some ⟨k, 0, none⟩)) (by rfl) rfl ?hr ?_
                (case hr => first | (go_simp; done) | (go_simp; rfl))
                intro kg W' hk_ hnew hb
                replace HO := Aside0.mk (Kd.R_below HO.out hb)
                replace HXB := Aside0.mk ((hb.block _ (blk_lt HXB.out)).trans HXB.out)
                have HGK := Aside0.mk (show W1.heap.size ≤ kg from by have h1 := HV.out.size; omega)
                have HGB := Aside0.mk hnew
                replace HV := Aside0.mk (HV.out.trans (hb.mono HV.out.size))
                clear hk_ hnew hb
                refine hK_.out _ _ ⟨pw_cell_below HV.out HX0.out, pw_cell_below HV.out HX1.out, pw_cell_below HV.out HX2.out⟩ (fun hHeld => ?_)
                clear hK_ Kq_
                refine norm_ (a' := ?_) ?_ ?_
                rotate_left
                · show Act.put _ (some 11) _ = _
                  simp only [Act.put, List.setIfInBounds_toArray, List.set_cons_zero, List.set_cons_succ]
                  rfl
                refine one_ (i := 13) (N := some 93) #[t,t,t,t,t,t,t,t,t,t,t,t,t,t,f,t,f] rfl rfl (one_of HT_.out (by kernel_rfl)) (by decide) (fun Kq_ hK_ => ?_)
                refine Kd.R_append_rows_step Lk (w0 := W1) W1.heap.size (by rfl) (.tmp 87) (.tmp 92) 23 35 (.agg #[.int .u64 0, .bool false]) 16 rfl Try.underlying23 infoLk rfl Nat.two_pos (by omega) v73 ([] ++ L) [(x, false)] (some ⟨kx, 0, none⟩) 1 1 (fun k => k ≠ kx) (fun _ => False) rfl rfl HO.out (C_oneLk HXB.out) (fun _ _ hh => hh) (fun _ hk => hk.elim) (fun k hk => by have h1 := blk_lt HXB.out; omega) HV.out HV.out.size (by simp; omega) ?_
                intro v78 w7 ho hb hg hat
                replace HXB := Aside0.mk (blk_grown HXB.out hg (fun he => HO.out.1 _ he.symm rfl))
                replace HGB := Aside0.mk (blk_grown HGB.out hg (fun he => own_ne HO.out HGB.out he))
                obtain ⟨A9, c9, rfl⟩ := Kd.R_slice ho
                obtain ⟨n9, hn9⟩ : ∃ n9, n9 = ([] ++ L ++ [(x, false)]).length := ⟨_, rfl⟩
                rw [← hn9] at ho ⊢
                obtain rfl : n9 = L.length + 1 := by rw [hn9]; simp
                rw [List.nil_append] at ho
                clear hn9
                clear HO
                have HO := Aside0.mk ho
                replace HV := Aside0.mk hb
                clear ho hb hg hat
                refine hK_.out _ _ ⟨pw_cell_below HV.out HX0.out, pw_cell_below HV.out HX1.out, pw_cell_below HV.out HX2.out⟩ (fun hHeld => ?_)
                clear hK_ Kq_
                refine norm_ (a' := ?_) ?_ ?_
                rotate_left
                · show Act.put _ (some 93) _ = _
                  simp only [Act.put, List.setIfInBounds_toArray, List.set_cons_zero, List.set_cons_succ]
                  rfl
                refine pure_ (i := 14) (N := some 94) (v := ?_) (a' := ?_) #[t,t,t,t,t,t,t,t,t,t,t,t,t,t,t,t,f] rfl rfl (any_of HT_.out (by kernel_rfl)) (fun _ _ _ h => h) (Or.inl ⟨by rfl, ?_⟩) ?_ ?_
                rotate_left; · intro w'; go_simp; with_reducible rfl
                rotate_left; · simp only [Act.put, List.setIfInBounds_toArray, List.set_cons_zero, List.set_cons_succ]; rfl
                have h_ := hc_ (v70, v73, A9, c9, kx, kg) _ ⟨R_not_found HO.out HGB.out, HGB.out, HV.out, HGK.out⟩
                simp only [putAll, Act.put, List.setIfInBounds_toArray, List.set_cons_zero, List.set_cons_succ] at h_
                exact h_
            · refine newcells_ (.cells #[.int .u64 0, .bool false, .slice none 0 0] 25) (fun k => .pointer (some ⟨k, 0, none⟩)) (by rfl) rfl ?hr ?_
              (case hr => first | (go_simp; done) | (go_simp; rfl))
              intro kg W' hk_ hnew hb
              replace HO := Aside0.mk (Kd.R_below HO.out hb)
              have HGK := Aside0.mk (show W1.heap.size ≤ kg from by have h1 := HV.out.size; omega)
              have HGB := Aside0.mk hnew
              replace HV := Aside0.mk (HV.out.trans (hb.mono HV.out.size))
              clear hk_ hnew hb
              refine hK_.out _ _ ⟨pw_cell_below HV.out HX0.out, pw_cell_below HV.out HX1.out, pw_cell_below HV.out HX2.out⟩ (fun hHeld => ?_)
              clear hK_ Kq_
              refine norm_ (a' := ?_) ?_ ?_
              rotate_left
              · show Act.put _ (some 11) _ = _
                simp only [Act.put, List.setIfInBounds_toArray, List.set_cons_zero, List.set_cons_succ]
                rfl
              refine one_ (i := 12) (N := some 92) #[t,t,t,t,t,t,t,t,t,t,t,t,t,f,f,t,f] rfl rfl (one_of HT_.out (by kernel_rfl)) (by decide) (fun Kq_ hK_ => ?_)
              refine newcells_ (.cells #[.int .u64 x, .bool false] 35) (fun k => .slice (some ⟨k, 0, none⟩) 1 1) (by rfl) rfl ?hr ?_
              (case hr => first | (go_simp; done) | (go_simp; rfl))
              intro kx W' hk_ hnew hb
              replace HO := Aside0.mk (show Kd.R Lk 35 W' W1.heap.size (fun k => k ≠ kx) v73 ([] ++ L) from Kd.R_mono (Kd.R_below (Kd.R_bound HO.out) hb) (fun k hk => by have h1 := hk.2.2.1; omega))
              replace HGB := Aside0.mk ((hb.block _ (blk_lt HGB.out)).trans HGB.out)
              have HXB := Aside0.mk hnew
              replace HV := Aside0.mk (HV.out.trans (hb.mono HV.out.size))
              clear hk_ hnew hb
              refine hK_.out _ _ ⟨pw_cell_below HV.out HX0.out, pw_cell_below HV.out HX1.out, pw_cell_below HV.out HX2.out⟩ (fun hHeld => ?_)
              clear hK_ Kq_
              refine norm_ (a' := ?_) ?_ ?_
              rotate_left
              · show Act.put _ (some 92) _ = _
                simp only [Act.put, List.setIfInBounds_toArray, List.set_cons_zero, List.set_cons_succ]
                rfl
              refine one_ (i := 13) (N := some 93) #[t,t,t,t,t,t,t,t,t,t,t,t,t,t,f,t,f] rfl rfl (one_of HT_.out (by kernel_rfl)) (by decide) (fun Kq_ hK_ => ?_)
              refine Kd.R_append_rows_step Lk (w0 := W1) W1.heap.size (by rfl) (.tmp 87) (.tmp 92) 23 35 (.agg #[.int .u64 0, .bool false]) 16 rfl Try.underlying23 infoLk rfl Nat.two_pos (by omega) v73 ([] ++ L) [(x, false)] (some ⟨kx, 0, none⟩) 1 1 (fun k => k ≠ kx) (fun _ => False) rfl rfl HO.out (C_oneLk HXB.out) (fun _ _ hh => hh) (fun _ hk => hk.elim) (fun k hk => by have h1 := blk_lt HXB.out; omega) HV.out HV.out.size (by simp; omega) ?_
              intro v78 w7 ho hb hg hat
              replace HXB := Aside0.mk (blk_grown HXB.out hg (fun he => HO.out.1 _ he.symm rfl))
              replace HGB := Aside0.mk (blk_grown HGB.out hg (fun he => own_ne HO.out HGB.out he))
              obtain ⟨A9, c9, rfl⟩ := Kd.R_slice ho
              obtain ⟨n9, hn9⟩ : ∃ n9, n9 = ([] ++ L ++ [(x, false)]).length := ⟨_, rfl⟩
              rw [← hn9] at ho ⊢
              obtain rfl : n9 = L.length + 1 := by rw [hn9]; simp
              rw [List.nil_append] at ho
              clear hn9
              clear HO
              have HO := Aside0.mk ho
              replace HV := Aside0.mk hb
              clear ho hb hg hat
              refine hK_.out _ _ ⟨pw_cell_below HV.out HX0.out, pw_cell_below HV.out HX1.out, pw_cell_below HV.out HX2.out⟩ (fun hHeld => ?_)
              clear hK_ Kq_
              refine norm_ (a' := ?_) ?_ ?_
              rotate_left
              · show Act.put _ (some 93) _ = _
                simp only [Act.put, List.setIfInBounds_toArray, List.set_cons_zero, List.set_cons_succ]
                rfl
              refine pure_ (i := 14) (N := some 94) (v := ?_) (a' := ?_) #[t,t,t,t,t,t,t,t,t,t,t,t,t,t,t,t,f] rfl rfl (any_of HT_.out (by kernel_rfl)) (fun _ _ _ h => h) (Or.inl ⟨by rfl, ?_⟩) ?_ ?_
              rotate_left; · intro w'; go_simp; with_reducible rfl
              rotate_left; · simp only [Act.put, List.setIfInBounds_toArray, List.set_cons_zero, List.set_cons_succ]; rfl
              have h_ := hc_ (v70, v73, A9, c9, kx, kg) _ ⟨R_not_found HO.out HGB.out, HGB.out, HV.out, HGK.out⟩
              simp only [putAll, Act.put, List.setIfInBounds_toArray, List.set_cons_zero, List.set_cons_succ] at h_
              exact h_
          · refine newcells_ (.cells #[.int .u64 x, .bool false] 35) (fun k => .slice (some ⟨k, 0, none⟩) 1 1) (by rfl) rfl ?hr ?_
            (case hr => first | (go_simp; done) | (go_simp; rfl))
            intro kx W' hk_ hnew hb
            replace HO := Aside0.mk (show Kd.R Lk 35 W' W1.heap.size (fun k => k ≠ kx) v70 [] from Kd.R_mono (Kd.R_below (Kd.R_bound HO.out) hb) (fun k hk => by have h1 := hk.2.2.1; omega))
            have HXB := Aside0.mk hnew
            replace HV := Aside0.mk (HV.out.trans (hb.mono HV.out.size))
            clear hk_ hnew hb
            refine hK_.out _ _ ⟨pw_cell_below HV.out HX0.out, pw_cell_below HV.out HX1.out, pw_cell_below HV.out HX2.out⟩ (fun hHeld => ?_)
            clear hK_ Kq_
            refine norm_ (a' := ?_) ?_ ?_
            rotate_left
            · show Act.put _ (some 92) _ = _
              simp only [Act.put, List.setIfInBounds_toArray, List.set_cons_zero, List.set_cons_succ]
              rfl
            refine two_ (i := 7) (j := 15) (Ni := some 87) (Nj := some 11) #[t,t,t,t,t,t,t,t,t,t,t,t,t,f,f,f,f] #[t,t,t,t,t,t,t,f,t,t,t,t,t,f,f,t,f] rfl rfl rfl rfl (two_of HT_.out (by kernel_rfl)) (by decide) (by decide) (fun Kq_ hK_ => ?_) (fun Kq_ hK_ => ?_)
            · refine Kd.R_append_rows_step Lk (w0 := W1) W1.heap.size (by rfl) (.tmp 84) (.tmp 86) 23 35 (.agg #[.int .u64 0, .bool false]) 16 rfl Try.underlying23 infoLk rfl Nat.two_pos (by omega) v70 [] L A4 L.length c4 (fun k => k ≠ kx) (fun _ => False) rfl rfl HO.out (Kd.C_below HR4.out HV.out) (fun _ _ hh => hh) (fun _ hk => hk.elim) (fun k hk => by have h1 := blk_lt HXB.out; omega) HV.out HV.out.size (by simp; omega) ?_
              intro v73 w7 ho hb hg hat
              replace HXB := Aside0.mk (blk_grown HXB.out hg (fun he => HO.out.1 _ he.symm rfl))
              clear HO
              have HO := Aside0.mk ho
              replace HV := Aside0.mk hb
              clear ho hb hg hat
              refine hK_.out _ _ ⟨pw_cell_below HV.out HX0.out, pw_cell_below HV.out HX1.out, pw_cell_below HV.out HX2.out⟩ (fun hHeld => ?_)
              clear hK_ Kq_
              refine norm_ (a' := ?_) ?_ ?_
              rotate_left
              · show Act.put _ (some 87) _ = _
                simp only [Act.put, List.setIfInBounds_toArray, List.set_cons_zero, List.set_cons_succ]
                rfl
              refine two_ (i := 13) (j := 15) (Ni := some 93) (Nj := some 11) #[t,t,t,t,t,t,t,t,t,t,t,t,t,t,f,f,f] #[t,t,t,t,t,t,t,t,t,t,t,t,t,f,f,t,f] rfl rfl rfl rfl (two_of HT_.out (by kernel_rfl)) (by decide) (by decide) (fun Kq_ hK_ => ?_) (fun Kq_ hK_ => ?_)
              · refine Kd.R_append_rows_step Lk (w0 := W1) W1.heap.size (by rfl) (.tmp 87) (.tmp 92) 23 35 (.agg #[.int .u64 0, .bool false]) 16 rfl Try.underlying23 infoLk rfl Nat.two_pos (by omega) v73 ([] ++ L) [(x, false)] (some ⟨kx, 0, none⟩) 1 1 (fun k => k ≠ kx) (fun _ => False) rfl rfl HO.out (C_oneLk HXB.out) (fun _ _ hh => hh) (fun _ hk => hk.elim) (fun k hk => by have h1 := blk_lt HXB.out; omega) HV.out HV.out.size (by simp; omega) ?_
                intro v78 w7 ho hb hg hat
                replace HXB := Aside0.mk (blk_grown HXB.out hg (fun he => HO.out.1 _ he.symm rfl))
                obtain ⟨A9, c9, rfl⟩ := Kd.R_slice ho
                obtain ⟨n9, hn9⟩ : ∃ n9, n9 = ([] ++ L ++ [(x, false)]).length := ⟨_, rfl⟩
                rw [← hn9] at ho ⊢
                obtain rfl : n9 = L.length + 1 := by rw [hn9]; simp
                rw [List.nil_append] at ho
                clear hn9
                clear HO
                have HO := Aside0.mk ho
                replace HV := Aside0.mk hb
                clear ho hb hg hat
                refine hK_.out _ _ ⟨pw_cell_below HV.out HX0.out, pw_cell_below HV.out HX1.out, pw_cell_below HV.out HX2.out⟩ (fun hHeld => ?_)
                clear hK_ Kq_
                refine norm_ (a' := ?_) ?_ ?_
                rotate_left
                · show Act.put _ (some 93) _ = _
                  simp only [Act.put, List.setIfInBounds_toArray, List.set_cons_zero, List.set_cons_succ]
                  rfl
                refine pure_ (i := 14) (N := some 94) (v := ?_) (a' := ?_) #[t,t,t,t,t,t,t,t,t,t,t,t,t,t,t,f,f] rfl rfl (any_of HT_.out (by kernel_rfl)) (fun _ _ _ h => h) (Or.inl ⟨by rfl, ?_⟩) ?_ ?_
                rotate_left; · intro w'; go_simp; with_reducible rfl
                rotate_left; · simp only [Act.put, List.setIfInBounds_toArray, List.set_cons_zero, List.set_cons_succ]; rfl
                refine one_ (i := 15) (N := some 11) #[t,t,t,t,t,t,t,t,t,t,t,t,t,t,t,t,f] rfl rfl (one_of HT_.out (by kernel_rfl)) (by decide) (fun Kq_ hK_ => ?_)
                refine newcells_ (.cells #[.int .u64 0, .bool false, .slice none 0 0] 25) (fun k => .pointer (some ⟨k, 0, none⟩)) (by rfl) rfl ?hr ?_
                (case hr => first | (go_simp; done) | (go_simp; rfl))
                intro kg W' hk_ hnew hb
                replace HO := Aside0.mk (Kd.R_below HO.out hb)
                replace HXB := Aside0.mk ((hb.block _ (blk_lt HXB.out)).trans HXB.out)
                have HGK := Aside0.mk (show W1.heap.size ≤ kg from by have h1 := HV.out.size; omega)
                have HGB := Aside0.mk hnew
                replace HV := Aside0.mk (HV.out.trans (hb.mono HV.out.size))
                clear hk_ hnew hb
                refine hK_.out _ _ ⟨pw_cell_below HV.out HX0.out, pw_cell_below HV.out HX1.out, pw_cell_below HV.out HX2.out⟩ (fun hHeld => ?_)
                clear hK_ Kq_
                refine norm_ (a' := ?_) ?_ ?_
                rotate_left
                · show Act.put _ (some 11) _ = _
                  simp only [Act.put, List.setIfInBounds_toArray, List.set_cons_zero, List.set_cons_succ]
                  rfl
                have h_ := hc_ (v70, v73, A9, c9, kx, kg) _ ⟨R_not_found HO.out HGB.out, HGB.out, HV.out, HGK.out⟩
                simp only [putAll, Act.put, List.setIfInBounds_toArray, List.set_cons_zero, List.set_cons_succ] at h_
                exact h_
              · refine newcells_ (.cells #[.int .u64 0, .bool false, .slice none 0 0] 25) (fun k => .pointer (some ⟨k, 0, none⟩)) (by rfl) rfl ?hr ?_
                (case hr => first | (go_simp; done) | (go_simp; rfl))
                intro kg W' hk_ hnew hb
                replace HO := Aside0.mk (Kd.R_below HO.out hb)
                replace HXB := Aside0.mk ((hb.block _ (blk_lt HXB.out)).trans HXB.out)
                have HGK := Aside0.mk (show W1.heap.size ≤ kg from by have h1 := HV.out.size; omega)
                have HGB := Aside0.mk hnew
                replace HV := Aside0.mk (HV.out.trans (hb.mono HV.out.size))
                clear hk_ hnew hb
                refine hK_.out _ _ ⟨pw_cell_below HV.out HX0.out, pw_cell_below HV.out HX1.out, pw_cell_below HV.out HX2.out⟩ (fun hHeld => ?_)
                clear hK_ Kq_
                refine norm_ (a' := ?_) ?_ ?_
                rotate_left
                · show Act.put _ (some 11) _ = _
                  simp only [Act.put, List.setIfInBounds_toArray, List.set_cons_zero, List.set_cons_succ]
                  rfl
                refine one_ (i := 13) (N := some 93) #[t,t,t,t,t,t,t,t,t,t,t,t,t,t,f,t,f] rfl rfl (one_of HT_.out (by kernel_rfl)) (by decide) (fun Kq_ hK_ => ?_)
                refine Kd.R_append_rows_step Lk (w0 := W1) W1.heap.size (by rfl) (.tmp 87) (.tmp 92) 23 35 (.agg #[.int .u64 0, .bool false]) 16 rfl Try.underlying23 infoLk rfl Nat.two_pos (by omega) v73 ([] ++ L) [(x, false)] (some ⟨kx, 0, none⟩) 1 1 (fun k => k ≠ kx) (fun _ => False) rfl rfl HO.out (C_oneLk HXB.out) (fun _ _ hh => hh) (fun _ hk => hk.elim) (fun k hk => by have h1 := blk_lt HXB.out; omega) HV.out HV.out.size (by simp; omega) ?_
                intro v78 w7 ho hb hg hat
                replace HXB := Aside0.mk (blk_grown HXB.out hg (fun he => HO.out.1 _ he.symm rfl))
                replace HGB := Aside0.mk (blk_grown HGB.out hg (fun he => own_ne HO.out HGB.out he))
                obtain ⟨A9, c9, rfl⟩ := Kd.R_slice ho
                obtain ⟨n9, hn9⟩ : ∃ n9, n9 = ([] ++ L ++ [(x, false)]).length := ⟨_, rfl⟩
                rw [← hn9] at ho ⊢
                obtain rfl : n9 = L.length + 1 := by rw [hn9]; simp
                rw [List.nil_append] at ho
                clear hn9
                clear HO
                have HO := Aside0.mk ho
                replace HV := Aside0.mk hb
                clear ho hb hg hat
                refine hK_.out _ _ ⟨pw_cell_below HV.out HX0.out, pw_cell_below HV.out HX1.out, pw_cell_below HV.out HX2.out⟩ (fun hHeld => ?_)
                clear hK_ Kq_
                refine norm_ (a' := ?_) ?_ ?_
                rotate_left
                · show Act.put _ (some 93) _ = _
                  simp only [Act.put, List.setIfInBounds_toArray, List.set_cons_zero, List.set_cons_succ]
                  rfl
                refine pure_ (i := 14) (N := some 94) (v := ?_) (a' := ?_) #[t,t,t,t,t,t,t,t,t,t,t,t,t,t,t,t,f] rfl rfl (any_of HT_.out (by kernel_rfl)) (fun _ _ _ h => h) (Or.inl ⟨by rfl, ?_⟩) ?_ ?_
                rotate_left; · intro w'; go_simp; with_reducible rfl
                rotate_left; · simp only [Act.put, List.setIfInBounds_toArray, List.set_cons_zero, List.set_cons_succ]; rfl
                have h_ := hc_ (v70, v73, A9, c9, kx, kg) _ ⟨R_not_found HO.out HGB.out, HGB.out, HV.out, HGK.out⟩
                simp only [putAll, Act.put, List.setIfInBounds_toArray, List.set_cons_zero, List.set_cons_succ] at h_
                exact h_
            · refine newcells_ (.cells #[.int .u64 0, .bool false, .slice none 0 0] 25) (fun k => .pointer (some ⟨k, 0, none⟩)) (by rfl) rfl ?hr ?_
              (case hr => first | (go_simp; done) | (go_simp; rfl))
              intro kg W' hk_ hnew hb
              replace HO := Aside0.mk (Kd.R_below HO.out hb)
              replace HXB := Aside0.mk ((hb.block _ (blk_lt HXB.out)).trans HXB.out)
              have HGK := Aside0.mk (show W1.heap.size ≤ kg from by have h1 := HV.out.size; omega)
              have HGB := Aside0.mk hnew
              replace HV := Aside0.mk (HV.out.trans (hb.mono HV.out.size))
              clear hk_ hnew hb
              refine hK_.out _ _ ⟨pw_cell_below HV.out HX0.out, pw_cell_below HV.out HX1.out, pw_cell_below HV.out HX2.out⟩ (fun hHeld => ?_)
              clear hK_ Kq_
              refine norm_ (a' := ?_) ?_ ?_
              rotate_left
              · show Act.put _ (some 11) _ = _
                simp only [Act.put, List.setIfInBounds_toArray, List.set_cons_zero, List.set_cons_succ]
                rfl
              refine one_ (i := 7) (N := some 87) #[t,t,t,t,t,t,t,t,t,t,t,t,t,f,f,t,f] rfl rfl (one_of HT_.out (by kernel_rfl)) (by decide) (fun Kq_ hK_ => ?_)
              refine Kd.R_append_rows_step Lk (w0 := W1) W1.heap.size (by rfl) (.tmp 84) (.tmp 86) 23 35 (.agg #[.int .u64 0, .bool false]) 16 rfl Try.underlying23 infoLk rfl Nat.two_pos (by omega) v70 [] L A4 L.length c4 (fun k => k ≠ kx) (fun _ => False) rfl rfl HO.out (Kd.C_below HR4.out HV.out) (fun _ _ hh => hh) (fun _ hk => hk.elim) (fun k hk => by have h1 := blk_lt HXB.out; omega) HV.out HV.out.size (by simp; omega) ?_
              intro v73 w7 ho hb hg hat
              replace HXB := Aside0.mk (blk_grown HXB.out hg (fun he => HO.out.1 _ he.symm rfl))
              replace HGB := Aside0.mk (blk_grown HGB.out hg (fun he => own_ne HO.out HGB.out he))
              clear HO
              have HO := Aside0.mk ho
              replace HV := Aside0.mk hb
              clear ho hb hg hat
              refine hK_.out _ _ ⟨pw_cell_below HV.out HX0.out, pw_cell_below HV.out HX1.out, pw_cell_below HV.out HX2.out⟩ (fun hHeld => ?_)
              clear hK_ Kq_
              refine norm_ (a' := ?_) ?_ ?_
              rotate_left
              · show Act.put _ (some 87) _ = _
                simp only [Act.put, List.setIfInBounds_toArray, List.set_cons_zero, List.set_cons_succ]
                rfl
              refine one_ (i := 13) (N := some 93) #[t,t,t,t,t,t,t,t,t,t,t,t,t,t,f,t,f] rfl rfl (one_of HT_.out (by kernel_rfl)) (by decide) (fun Kq_ hK_ => ?_)
              refine Kd.R_append_rows_step Lk (w0 := W1) W1.heap.size (by rfl) (.tmp 87) (.tmp 92) 23 35 (.agg #[.int .u64 0, .bool false]) 16 rfl Try.underlying23 infoLk rfl Nat.two_pos (by omega) v73 ([] ++ L) [(x, false)] (some ⟨kx, 0, none⟩) 1 1 (fun k => k ≠ kx) (fun _ => False) rfl rfl HO.out (C_oneLk HXB.out) (fun _ _ hh => hh) (fun _ hk => hk.elim) (fun k hk => by have h1 := blk_lt HXB.out; omega) HV.out HV.out.size (by simp; omega) ?_
              intro v78 w7 ho hb hg hat
              replace HXB := Aside0.mk (blk_grown HXB.out hg (fun he => HO.out.1 _ he.symm rfl))
              replace HGB := Aside0.mk (blk_grown HGB.out hg (fun he => own_ne HO.out HGB.out he))
              obtain ⟨A9, c9, rfl⟩ := Kd.R_slice ho
              obtain ⟨n9, hn9⟩ : ∃ n9, n9 = ([] ++ L ++ [(x, false)]).length := ⟨_, rfl⟩
              rw [← hn9] at ho ⊢
              obtain rfl : n9 = L.length + 1 := by rw [hn9]; simp
              rw [List.nil_append] at ho
              clear hn9
              clear HO
              have HO := Aside0.mk ho
              replace HV := Aside0.mk hb
              clear ho hb hg hat
              refine hK_.out _ _ ⟨pw_cell_below HV.out HX0.out, pw_cell_below HV.out HX1.out, pw_cell_below HV.out HX2.out⟩ (fun hHeld => ?_)
              clear hK_ Kq_
              refine norm_ (a' := ?_) ?_ ?_
              rotate_left
              · show Act.put _ (some 93) _ = _
                simp only [Act.put, List.setIfInBounds_toArray, List.set_cons_zero, List.set_cons_succ]
                rfl
              refine pure_ (i := 14) (N := some 94) (v := ?_) (a' := ?_) #[t,t,t,t,t,t,t,t,t,t,t,t,t,t,t,t,f] rfl rfl (any_of HT_.out (by kernel_rfl)) (fun _ _ _ h => h) (Or.inl ⟨by rfl, ?_⟩) ?_ ?_
              rotate_left; · intro w'; go_simp; with_reducible rfl
              rotate_left; · simp only [Act.put, List.setIfInBounds_toArray, List.set_cons_zero, List.set_cons_succ]; rfl
              have h_ := hc_ (v70, v73, A9, c9, kx, kg) _ ⟨R_not_found HO.out HGB.out, HGB.out, HV.out, HGK.out⟩
              simp only [putAll, Act.put, List.setIfInBounds_toArray, List.set_cons_zero, List.set_cons_succ] at h_
              exact h_
          · refine newcells_ (.cells #[.int .u64 0, .bool false, .slice none 0 0] 25) (fun k => .pointer (some ⟨k, 0, none⟩)) (by rfl) rfl ?hr ?_
            (case hr => first | (go_simp; done) | (go_simp; rfl))
            intro kg W' hk_ hnew hb
            replace HO := Aside0.mk (Kd.R_below HO.out hb)
            have HGK := Aside0.mk (show W1.heap.size ≤ kg from by have h1 := HV.out.size; omega)
            have HGB := Aside0.mk hnew
            replace HV := Aside0.mk (HV.out.trans (hb.mono HV.out.size))
            clear hk_ hnew hb
            refine hK_.out _ _ ⟨pw_cell_below HV.out HX0.out, pw_cell_below HV.out HX1.out, pw_cell_below HV.out HX2.out⟩ (fun hHeld => ?_)
            clear hK_ Kq_
            refine norm_ (a' := ?_) ?_ ?_
            rotate_left
            · show Act.put _ (some 11) _ = _
              simp only [Act.put, List.setIfInBounds_toArray, List.set_cons_zero, List.set_cons_succ]
              rfl
            refine two_ (i := 7) (j := 12) (Ni := some 87) (Nj := some 92) #[t,t,t,t,t,t,t,t,t,t,t,t,f,f,f,t,f] #[t,t,t,t,t,t,t,f,t,t,t,t,t,f,f,t,f] rfl rfl rfl rfl (two_of HT_.out (by kernel_rfl)) (by decide) (by decide) (fun Kq_ hK_ => ?_) (fun Kq_ hK_ => ?_)
            · refine Kd.R_append_rows_step Lk (w0 := W1) W1.heap.size (by rfl) (.tmp 84) (.tmp 86) 23 35 (.agg #[.int .u64 0, .bool false]) 16 rfl Try.underlying23 infoLk rfl Nat.two_pos (by omega) v70 [] L A4 L.length c4 (fun _ => True) (fun _ => False) rfl rfl HO.out (Kd.C_below HR4.out HV.out) (fun _ _ hh => hh) (fun _ hk => hk.elim) (fun _ _ => trivial) HV.out HV.out.size (by simp; omega) ?_
              intro v73 w7 ho hb hg hat
              replace HGB := Aside0.mk (blk_grown HGB.out hg (fun he => own_ne HO.out HGB.out he))
              clear HO
              have HO := Aside0.mk ho
              replace HV := Aside0.mk hb
              clear ho hb hg hat
              refine hK_.out _ _ ⟨pw_cell_below HV.out HX0.out, pw_cell_below HV.out HX1.out, pw_cell_below HV.out HX2.out⟩ (fun hHeld => ?_)
              clear hK_ Kq_
              refine norm_ (a' := ?_) ?_ ?_
              rotate_left
              · show Act.put _ (some 87) _ = _
                simp only [Act.put, List.setIfInBounds_toArray, List.set_cons_zero, List.set_cons_succ]
                rfl
              refine one_ (i := 12) (N := some 92) #[t,t,t,t,t,t,t,t,t,t,t,t,t,f,f,t,f] rfl rfl (one_of HT_.out (by kernel_rfl)) (by decide) (fun Kq_ hK_ => ?_)
              refine newcells_ (.cells #[.int .u64 x, .bool false] 35) (fun k => .slice (some ⟨k, 0, none⟩) 1 1) (by rfl) rfl ?hr ?_
              (case hr => first | (go_simp; done) | (go_simp; rfl))
              intro kx W' hk_ hnew hb
              replace HO := Aside0.mk (show Kd.R Lk 35 W' W1.heap.size (fun k => k ≠ kx) v73 ([] ++ L) from Kd.R_mono (Kd.R_below (Kd.R_bound HO.out) hb) (fun k hk => by have h1 := hk.2.2.1; omega))
              replace HGB := Aside0.mk ((hb.block _ (blk_lt HGB.out)).trans HGB.out)
              have HXB := Aside0.mk hnew
              replace HV := Aside0.mk (HV.out.trans (hb.mono HV.out.size))
              clear hk_ hnew hb
              refine hK_.out _ _ ⟨pw_cell_below HV.out HX0.out, pw_cell_below HV.out HX1.out, pw_cell_below HV.out HX2.out⟩ (fun hHeld => ?_)
              clear hK_ Kq_
              refine norm_ (a' := ?_) ?_ ?_
              rotate_left
              · show Act.put _ (some 92) _ = _
                simp only [Act.put, List.setIfInBounds_toArray, List.set_cons_zero, List.set_cons_succ]
                rfl
              refine one_ (i := 13) (N := some 93) #[t,t,t,t,t,t,t,t,t,t,t,t,t,t,f,t,f] rfl rfl (one_of HT_.out (by kernel_rfl)) (by decide) (fun Kq_ hK_ => ?_)
              refine Kd.R_append_rows_step Lk (w0 := W1) W1.heap.size (by rfl) (.tmp 87) (.tmp 92) 23 35 (.agg #[.int .u64 0, .bool false]) 16 rfl Try.underlying23 infoLk rfl Nat.two_pos (by omega) v73 ([] ++ L) [(x, false)] (some ⟨kx, 0, none⟩) 1 1 (fun k => k ≠ kx) (fun _ => False) rfl rfl HO.out (C_oneLk HXB.out) (fun _ _ hh => hh) (fun _ hk => hk.elim) (fun k hk => by have h1 := blk_lt HXB.out; omega) HV.out HV.out.size (by simp; omega) ?_
              intro v78 w7 ho hb hg hat
              replace HXB := Aside0.mk (blk_grown HXB.out hg (fun he => HO.out.1 _ he.symm rfl))
              replace HGB := Aside0.mk (blk_grown HGB.out hg (fun he => own_ne HO.out HGB.out he))
              obtain ⟨A9, c9, rfl⟩ := Kd.R_slice ho
              obtain ⟨n9, hn9⟩ : ∃ n9, n9 = ([] ++ L ++ [(x, false)]).length := ⟨_, rfl⟩
              rw [← hn9] at ho ⊢
              obtain rfl : n9 = L.length + 1 := by rw [hn9]; simp
              rw [List.nil_append] at ho
              clear hn9
              clear HO
              have HO := Aside0.mk ho
              replace HV := Aside0.mk hb
              clear ho hb hg hat
              refine hK_.out _ _ ⟨pw_cell_below HV.out HX0.out, pw_cell_below HV.out HX1.out, pw_cell_below HV.out HX2.out⟩ (fun hHeld => ?_)
              clear hK_ Kq_
              refine norm_ (a' := ?_) ?_ ?_
              rotate_left
              · show Act.put _ (some 93) _ = _
                simp only [Act.put, List.setIfInBounds_toArray, List.set_cons_zero, List.set_cons_succ]
                rfl
              refine pure_ (i := 14) (N := some 94) (v := ?_) (a' := ?_) #[t,t,t,t,t,t,t,t,t,t,t,t,t,t,t,t,f] rfl rfl (any_of HT_.out (by kernel_rfl)) (fun _ _ _ h => h) (Or.inl ⟨by rfl, ?_⟩) ?_ ?_
              rotate_left; · intro w'; go_simp; with_reducible rfl
              rotate_left; · simp only [Act.put, List.setIfInBounds_toArray, List.set_cons_zero, List.set_cons_succ]; rfl
              have h_ := hc_ (v70, v73, A9, c9, kx, kg) _ ⟨R_not_found HO.out HGB.out, HGB.out, HV.out, HGK.out⟩
              simp only [putAll, Act.put, List.setIfInBounds_toArray, List.set_cons_zero, List.set_cons_succ] at h_
              exact h_
            · refine newcells_ (.cells #[.int .u64 x, .bool false] 35) (fun k => .slice (some ⟨k, 0, none⟩) 1 1) (by rfl) rfl ?hr ?_
              (case hr => first | (go_simp; done) | (go_simp; rfl))
              intro kx W' hk_ hnew hb
              replace HO := Aside0.mk (show Kd.R Lk 35 W' W1.heap.size (fun k => k ≠ kx) v70 [] from Kd.R_mono (Kd.R_below (Kd.R_bound HO.out) hb) (fun k hk => by have h1 := hk.2.2.1; omega))
              replace HGB := Aside0.mk ((hb.block _ (blk_lt HGB.out)).trans HGB.out)
              have HXB := Aside0.mk hnew
              replace HV := Aside0.mk (HV.out.trans (hb.mono HV.out.size))
              clear hk_ hnew hb
              refine hK_.out _ _ ⟨pw_cell_below HV.out HX0.out, pw_cell_below HV.out HX1.out, pw_cell_below HV.out HX2.out⟩ (fun hHeld => ?_)
              clear hK_ Kq_
              refine norm_ (a' := ?_) ?_ ?_
              rotate_left
              · show Act.put _ (some 92) _ = _
                simp only [Act.put, List.setIfInBounds_toArray, List.set_cons_zero, List.set_cons_succ]
                rfl
              refine one_ (i := 7) (N := some 87) #[t,t,t,t,t,t,t,t,t,t,t,t,t,f,f,t,f] rfl rfl (one_of HT_.out (by kernel_rfl)) (by decide) (fun Kq_ hK_ => ?_)
              refine Kd.R_append_rows_step Lk (w0 := W1) W1.heap.size (by rfl) (.tmp 84) (.tmp 86) 23 35 (.agg #[.int .u64 0, .bool false]) 16 rfl Try.underlying23 infoLk rfl Nat.two_pos (by omega) v70 [] L A4 L.length c4 (fun k => k ≠ kx) (fun _ => False) rfl rfl HO.out (Kd.C_below HR4.out HV.out) (fun _ _ hh => hh) (fun _ hk => hk.elim) (fun k hk => by have h1 := blk_lt HXB.out; omega) HV.out HV.out.size (by simp; omega) ?_
              intro v73 w7 ho hb hg hat
              replace HXB := Aside0.mk (blk_grown HXB.out hg (fun he => HO.out.1 _ he.symm rfl))
              replace HGB := Aside0.mk (blk_grown HGB.out hg (fun he => own_ne HO.out HGB.out he))
              clear HO
              have HO := Aside0.mk ho
              replace HV := Aside0.mk hb
              clear ho hb hg hat
              refine hK_.out _ _ ⟨pw_cell_below HV.out HX0.out, pw_cell_below HV.out HX1.out, pw_cell_below HV.out HX2.out⟩ (fun hHeld => ?_)
              clear hK_ Kq_
              refine norm_ (a' := ?_) ?_ ?_
              rotate_left
              · show Act.put _ (some 87) _ = _
                simp only [Act.put, List.setIfInBounds_toArray, List.set_cons_zero, List.set_cons_succ]
                rfl
              refine one_ (i := 13) (N := some 93) #[t,t,t,t,t,t,t,t,t,t,t,t,t,t,f,t,f] rfl rfl (one_of HT_.out (by kernel_rfl)) (by decide) (fun Kq_ hK_ => ?_)
              refine Kd.R_append_rows_step Lk (w0 := W1) W1.heap.size (by rfl) (.tmp 87) (.tmp 92) 23 35 (.agg #[.int .u64 0, .bool false]) 16 rfl Try.underlying23 infoLk rfl Nat.two_pos (by omega) v73 ([] ++ L) [(x, false)] (some ⟨kx, 0, none⟩) 1 1 (fun k => k ≠ kx) (fun _ => False) rfl rfl HO.out (C_oneLk HXB.out) (fun _ _ hh => hh) (fun _ hk => hk.elim) (fun k hk => by have h1 := blk_lt HXB.out; omega) HV.out HV.out.size (by simp; omega) ?_
              intro v78 w7 ho hb hg hat
              replace HXB := Aside0.mk (blk_grown HXB.out hg (fun he => HO.out.1 _ he.symm rfl))
              replace HGB := Aside0.mk (blk_grown HGB.out hg (fun he => own_ne HO.out HGB.out he))
              obtain ⟨A9, c9, rfl⟩ := Kd.R_slice ho
              obtain ⟨n9, hn9⟩ : ∃ n9, n9 = ([] ++ L ++ [(x, false)]).length := ⟨_, rfl⟩
              rw [← hn9] at ho ⊢
              obtain rfl : n9 = L.length + 1 := by rw [hn9]; simp
              rw [List.nil_append] at ho
              clear hn9
              clear HO
              have HO := Aside0.mk ho
              replace HV := Aside0.mk hb
              clear ho hb hg hat
              refine hK_.out _ _ ⟨pw_cell_below HV.out HX0.out, pw_cell_below HV.out HX1.out, pw_cell_below HV.out HX2.out⟩ (fun hHeld => ?_)
              clear hK_ Kq_
              refine norm_ (a' := ?_) ?_ ?_
              rotate_left
              · show Act.put _ (some 93) _ = _
                simp only [Act.put, List.setIfInBounds_toArray, List.set_cons_zero, List.set_cons_succ]
                rfl
              refine pure_ (i := 14) (N := some 94) (v := ?_) (a' := ?_) #[t,t,t,t,t,t,t,t,t,t,t,t,t,t,t,t,f] rfl rfl (any_of HT_.out (by kernel_rfl)) (fun _ _ _ h => h) (Or.inl ⟨by rfl, ?_⟩) ?_ ?_
              rotate_left; · intro w'; go_simp; with_reducible rfl
              rotate_left; · simp only [Act.put, List.setIfInBounds_toArray, List.set_cons_zero, List.set_cons_succ]; rfl
              have h_ := hc_ (v70, v73, A9, c9, kx, kg) _ ⟨R_not_found HO.out HGB.out, HGB.out, HV.out, HGK.out⟩
              simp only [putAll, Act.put, List.setIfInBounds_toArray, List.set_cons_zero, List.set_cons_succ] at h_
              exact h_
        · refine newcells_ (.cells #[.int .u64 x, .bool false] 35) (fun k => .slice (some ⟨k, 0, none⟩) 1 1) (by rfl) rfl ?hr ?_
          (case hr => first | (go_simp; done) | (go_simp; rfl))
          intro kx W' hk_ hnew hb
          have HXB := Aside0.mk hnew
          replace HV := Aside0.mk (HV.out.trans (hb.mono HV.out.size))
          clear hk_ hnew hb
          refine hK_.out _ _ ⟨pw_cell_below HV.out HX0.out, pw_cell_below HV.out HX1.out, pw_cell_below HV.out HX2.out⟩ (fun hHeld => ?_)
          clear hK_ Kq_
          refine norm_ (a' := ?_) ?_ ?_
          rotate_left
          · show Act.put _ (some 92) _ = _
            simp only [Act.put, List.setIfInBounds_toArray, List.set_cons_zero, List.set_cons_succ]
            rfl
          refine two_ (i := 4) (j := 15) (Ni := some 84) (Nj := some 11) #[t,t,t,t,t,t,t,f,t,t,t,t,t,f,f,f,f] #[t,t,t,t,f,t,t,f,t,t,t,t,t,f,f,t,f] rfl rfl rfl rfl (two_of HT_.out (by kernel_rfl)) (by decide) (by decide) (fun Kq_ hK_ => ?_) (fun Kq_ hK_ => ?_)
          · refine Kd.R_lit_step Lk (w0 := W1) W1.heap.size 35 (by rfl) (N := 84) rfl (xs := []) (inner := []) (ok := fun k => k ≠ kx) (okp := fun k => k ≠ kx) ?hr (by constructor <;> simp) (fun _ hk => hk) (by have h1 := blk_lt HXB.out; omega) HV.out HV.out.size (by simp) ?_
            (case hr => first | (go_simp; done) | (go_simp; rfl))
            intro v70 w4 ho hb hg hat
            replace HXB := Aside0.mk (blk_grown HXB.out hg (by simp))
            have HO := Aside0.mk ho
            replace HV := Aside0.mk hb
            clear ho hb hg hat
            refine hK_.out _ _ ⟨pw_cell_below HV.out HX0.out, pw_cell_below HV.out HX1.out, pw_cell_below HV.out HX2.out⟩ (fun hHeld => ?_)
            clear hK_ Kq_
            refine norm_ (a' := ?_) ?_ ?_
            rotate_left
            · show Act.put _ (some 84) _ = _
              simp only [Act.put, List.setIfInBounds_toArray, List.set_cons_zero, List.set_cons_succ]
              rfl
            refine two_ (i := 7) (j := 15) (Ni := some 87) (Nj := some 11) #[t,t,t,t,t,t,t,t,t,t,t,t,t,f,f,f,f] #[t,t,t,t,t,t,t,f,t,t,t,t,t,f,f,t,f] rfl rfl rfl rfl (two_of HT_.out (by kernel_rfl)) (by decide) (by decide) (fun Kq_ hK_ => ?_) (fun Kq_ hK_ => ?_)
            · refine Kd.R_append_rows_step Lk (w0 := W1) W1.heap.size (by rfl) (.tmp 84) (.tmp 86) 23 35 (.agg #[.int .u64 0, .bool false]) 16 rfl Try.underlying23 infoLk rfl Nat.two_pos (by omega) v70 [] L A4 L.length c4 (fun k => k ≠ kx) (fun _ => False) rfl rfl HO.out (Kd.C_below HR4.out HV.out) (fun _ _ hh => hh) (fun _ hk => hk.elim) (fun k hk => by have h1 := blk_lt HXB.out; omega) HV.out HV.out.size (by simp; omega) ?_
              intro v73 w7 ho hb hg hat
              replace HXB := Aside0.mk (blk_grown HXB.out hg (fun he => HO.out.1 _ he.symm rfl))
              clear HO
              have HO := Aside0.mk ho
              replace HV := Aside0.mk hb
              clear ho hb hg hat
              refine hK_.out _ _ ⟨pw_cell_below HV.out HX0.out, pw_cell_below HV.out HX1.out, pw_cell_below HV.out HX2.out⟩ (fun hHeld => ?_)
              clear hK_ Kq_
              refine norm_ (a' := ?_) ?_ ?_
              rotate_left
              · show Act.put _ (some 87) _ = _
                simp only [Act.put, List.setIfInBounds_toArray, List.set_cons_zero, List.set_cons_succ]
                rfl
              refine two_ (i := 13) (j := 15) (Ni := some 93) (Nj := some 11) #[t,t,t,t,t,t,t,t,t,t,t,t,t,t,f,f,f] #[t,t,t,t,t,t,t,t,t,t,t,t,t,f,f,t,f] rfl rfl rfl rfl (two_of HT_.out (by kernel_rfl)) (by decide) (by decide) (fun Kq_ hK_ => ?_) (fun Kq_ hK_ => ?_)
              · refine Kd.R_append_rows_step Lk (w0 := W1) W1.heap.size (by rfl) (.tmp 87) (.tmp 92) 23 35 (.agg #[.int .u64 0, .bool false]) 16 rfl Try.underlying23 infoLk rfl Nat.two_pos (by omega) v73 ([] ++ L) [(x, false)] (some ⟨kx, 0, none⟩) 1 1 (fun k => k ≠ kx) (fun _ => False) rfl rfl HO.out (C_oneLk HXB.out) (fun _ _ hh => hh) (fun _ hk => hk.elim) (fun k hk => by have h1 := blk_lt HXB.out; omega) HV.out HV.out.size (by simp; omega) ?_
                intro v78 w7 ho hb hg hat
                replace HXB := Aside0.mk (blk_grown HXB.out hg (fun he => HO.out.1 _ he.symm rfl))
                obtain ⟨A9, c9, rfl⟩ := Kd.R_slice ho
                obtain ⟨n9, hn9⟩ : ∃ n9, n9 = ([] ++ L ++ [(x, false)]).length := ⟨_, rfl⟩
                rw [← hn9] at ho ⊢
                obtain rfl : n9 = L.length + 1 := by rw [hn9]; simp
                rw [List.nil_append] at ho
                clear hn9
                clear HO
                have HO := Aside0.mk ho
                replace HV := Aside0.mk hb
                clear ho hb hg hat
                refine hK_.out _ _ ⟨pw_cell_below HV.out HX0.out, pw_cell_below HV.out HX1.out, pw_cell_below HV.out HX2.out⟩ (fun hHeld => ?_)
                clear hK_ Kq_
                refine norm_ (a' := ?_) ?_ ?_
                rotate_left
                · show Act.put _ (some 93) _ = _
                  simp only [Act.put, List.setIfInBounds_toArray, List.set_cons_zero, List.set_cons_succ]
                  rfl
                refine pure_ (i := 14) (N := some 94) (v := ?_) (a' := ?_) #[t,t,t,t,t,t,t,t,t,t,t,t,t,t,t,f,f] rfl rfl (any_of HT_.out (by kernel_rfl)) (fun _ _ _ h => h) (Or.inl ⟨by rfl, ?_⟩) ?_ ?_
                rotate_left; · intro w'; go_simp; with_reducible rfl
                rotate_left; · simp only [Act.put, List.setIfInBounds_toArray, List.set_cons_zero, List.set_cons_succ]; rfl
                refine one_ (i := 15) (N := some 11) #[t,t,t,t,t,t,t,t,t,t,t,t,t,t,t,t,f] rfl rfl (one_of HT_.out (by kernel_rfl)) (by decide) (fun Kq_ hK_ => ?_)
                refine newcells_ (.cells #[.int .u64 0, .bool false, .slice none 0 0] 25) (fun k => .pointer (some ⟨k, 0, none⟩)) (by rfl) rfl ?hr ?_
                (case hr => first | (go_simp; done) | (go_simp; rfl))
                intro kg W' hk_ hnew hb
                replace HO := Aside0.mk (Kd.R_below HO.out hb)
                replace HXB := Aside0.mk ((hb.block _ (blk_lt HXB.out)).trans HXB.out)
                have HGK := Aside0.mk (show W1.heap.size ≤ kg from by have h1 := HV.out.size; omega)
                have HGB := Aside0.mk hnew
                replace HV := Aside0.mk (HV.out.trans (hb.mono HV.out.size))
                clear hk_ hnew hb
                refine hK_.out _ _ ⟨pw_cell_below HV.out HX0.out, pw_cell_below HV.out HX1.out, pw_cell_below HV.out HX2.out⟩ (fun hHeld => ?_)
                clear hK_ Kq_
                refine norm_ (a' := ?_) ?_ ?_
                rotate_left
                · show Act.put _ (some 11) _ = _
                  simp only [Act.put, List.setIfInBounds_toArray, List.set_cons_zero, List.set_cons_succ]
                  rfl
                have h_ := hc_ (v70, v73, A9, c9, kx, kg) _ ⟨R_not_found HO.out HGB.out, HGB.out, HV.out, HGK.out⟩
                simp only [putAll, Act.put, List.setIfInBounds_toArray, List.set_cons_zero, List.set_cons_succ] at h_
                exact h_
              · refine newcells_ (.cells #[.int .u64 0, .bool false, .slice none 0 0] 25) (fun k => .pointer (some ⟨k, 0, none⟩)) (by rfl) rfl ?hr ?_
                (case hr => first | (go_simp; done) | (go_simp; rfl))
                intro kg W' hk_ hnew hb
                replace HO := Aside0.mk (Kd.R_below HO.out hb)
                replace HXB := Aside0.mk ((hb.block _ (blk_lt HXB.out)).trans HXB.out)
                have HGK := Aside0.mk (show W1.heap.size ≤ kg from by have h1 := HV.out.size; omega)
                have HGB := Aside0.mk hnew
                replace HV := Aside0.mk (HV.out.trans (hb.mono HV.out.size))
                clear hk_ hnew hb
                refine hK_.out _ _ ⟨pw_cell_below HV.out HX0.out, pw_cell_below HV.out HX1.out, pw_cell_below HV.out HX2.out⟩ (fun hHeld => ?_)
                clear hK_ Kq_
                refine norm_ (a' := ?_) ?_ ?_
                rotate_left
                · show Act.put _ (some 11) _ = _
                  simp only [Act.put, List.setIfInBounds_toArray, List.set_cons_zero, List.set_cons_succ]
                  rfl
                refine one_ (i := 13) (N := some 93) #[t,t,t,t,t,t,t,t,t,t,t,t,t,t,f,t,f] rfl rfl (one_of HT_.out (by kernel_rfl)) (by decide) (fun Kq_ hK_ => ?_)
                refine Kd.R_append_rows_step Lk (w0 := W1) W1.heap.size (by rfl) (.tmp 87) (.tmp 92) 23 35 (.agg #[.int .u64 0, .bool false]) 16 rfl Try.underlying23 infoLk rfl Nat.two_pos (by omega) v73 ([] ++ L) [(x, false)] (some ⟨kx, 0, none⟩) 1 1 (fun k => k ≠ kx) (fun _ => False) rfl rfl HO.out (C_oneLk HXB.out) (fun _ _ hh => hh) (fun _ hk => hk.elim) (fun k hk => by have h1 := blk_lt HXB.out; omega) HV.out HV.out.size (by simp; omega) ?_
                intro v78 w7 ho hb hg hat
                replace HXB := Aside0.mk (blk_grown HXB.out hg (fun he => HO.out.1 _ he.symm rfl))
                replace HGB := Aside0.mk (blk_grown HGB.out hg (fun he => own_ne HO.out HGB.out he))
                obtain ⟨A9, c9, rfl⟩ := Kd.R_slice ho
                obtain ⟨n9, hn9⟩ : ∃ n9, n9 = ([] ++ L ++ [(x, false)]).length := ⟨_, rfl⟩
                rw [← hn9] at ho ⊢
                obtain rfl : n9 = L.length + 1 := by rw [hn9]; simp
                rw [List.nil_append] at ho
                clear hn9
                clear HO
                have HO := Aside0.mk ho
                replace HV := Aside0.mk hb
                clear ho hb hg hat
                refine hK_.out _ _ ⟨pw_cell_below HV.out HX0.out, pw_cell_below HV.out HX1.out, pw_cell_below HV.out HX2.out⟩ (fun hHeld => ?_)
                clear hK_ Kq_
                refine norm_ (a' := ?_) ?_ ?_
                rotate_left
                · show Act.put _ (some 93) _ = _
                  simp only [Act.put, List.setIfInBounds_toArray, List.set_cons_zero, List.set_cons_succ]
                  rfl
                refine pure_ (i := 14) (N := some 94) (v := ?_) (a' := ?_) #[t,t,t,t,t,t,t,t,t,t,t,t,t,t,t,t,f] rfl rfl (any_of HT_.out (by kernel_rfl)) (fun _ _ _ h => h) (Or.inl ⟨by rfl, ?_⟩) ?_ ?_
                rotate_left; · intro w'; go_simp; with_reducible rfl
                rotate_left; · simp only [Act.put, List.setIfInBounds_toArray, List.set_cons_zero, List.set_cons_succ]; rfl
                have h_ := hc_ (v70, v73, A9, c9, kx, kg) _ ⟨R_not_found HO.out HGB.out, HGB.out, HV.out, HGK.out⟩
                simp only [putAll, Act.put, List.setIfInBounds_toArray, List.set_cons_zero, List.set_cons_succ] at h_
                exact h_
            · refine newcells_ (.cells #[.int .u64 0, .bool false, .slice none 0 0] 25) (fun k => .pointer (some ⟨k, 0, none⟩)) (by rfl) rfl ?hr ?_
              (case hr => first | (go_simp; done) | (go_simp; rfl))
              intro kg W' hk_ hnew hb
              replace HO := Aside0.mk (Kd.R_below HO.out hb)
              replace HXB := Aside0.mk ((hb.block _ (blk_lt HXB.out)).trans HXB.out)
              have HGK := Aside0.mk (show W1.heap.size ≤ kg from by have h1 := HV.out.size; omega)
              have HGB := Aside0.mk hnew
              replace HV := Aside0.mk (HV.out.trans (hb.mono HV.out.size))
              clear hk_ hnew hb
              refine hK_.out _ _ ⟨pw_cell_below HV.out HX0.out, pw_cell_below HV.out HX1.out, pw_cell_below HV.out HX2.out⟩ (fun hHeld => ?_)
              clear hK_ Kq_
              refine norm_ (a' := ?_) ?_ ?_
              rotate_left
              · show Act.put _ (some 11) _ = _
                simp only [Act.put, List.setIfInBounds_toArray, List.set_cons_zero, List.set_cons_succ]
                rfl
              refine one_ (i := 7) (N := some 87) #[t,t,t,t,t,t,t,t,t,t,t,t,t,f,f,t,f] rfl rfl (one_of HT_.out (by kernel_rfl)) (by decide) (fun Kq_ hK_ => ?_)
              refine Kd.R_append_rows_step Lk (w0 := W1) W1.heap.size (by rfl) (.tmp 84) (.tmp 86) 23 35 (.agg #[.int .u64 0, .bool false]) 16 rfl Try.underlying23 infoLk rfl Nat.two_pos (by omega) v70 [] L A4 L.length c4 (fun k => k ≠ kx) (fun _ => False) rfl rfl HO.out (Kd.C_below HR4.out HV.out) (fun _ _ hh => hh) (fun _ hk => hk.elim) (fun k hk => by have h1 := blk_lt HXB.out; omega) HV.out HV.out.size (by simp; omega) ?_
              intro v73 w7 ho hb hg hat
              replace HXB := Aside0.mk (blk_grown HXB.out hg (fun he => HO.out.1 _ he.symm rfl))
              replace HGB := Aside0.mk (blk_grown HGB.out hg (fun he => own_ne HO.out HGB.out he))
              clear HO
              have HO := Aside0.mk ho
              replace HV := Aside0.mk hb
              clear ho hb hg hat
              refine hK_.out _ _ ⟨pw_cell_below HV.out HX0.out, pw_cell_below HV.out HX1.out, pw_cell_below HV.out HX2.out⟩ (fun hHeld => ?_)
              clear hK_ Kq_
              refine norm_ (a' := ?_) ?_ ?_
              rotate_left
              · show Act.put _ (some 87) _ = _
                simp only [Act.put, List.setIfInBounds_toArray, List.set_cons_zero, List.set_cons_succ]
                rfl
              refine one_ (i := 13) (N := some 93) #[t,t,t,t,t,t,t,t,t,t,t,t,t,t,f,t,f] rfl rfl (one_of HT_.out (by kernel_rfl)) (by decide) (fun Kq_ hK_ => ?_)
              refine Kd.R_append_rows_step Lk (w0 := W1) W1.heap.size (by rfl) (.tmp 87) (.tmp 92) 23 35 (.agg #[.int .u64 0, .bool false]) 16 rfl Try.underlying23 infoLk rfl Nat.two_pos (by omega) v73 ([] ++ L) [(x, false)] (some ⟨kx, 0, none⟩) 1 1 (fun k => k ≠ kx) (fun _ => False) rfl rfl HO.out (C_oneLk HXB.out) (fun _ _ hh => hh) (fun _ hk => hk.elim) (fun k hk => by have h1 := blk_lt HXB.out; omega) HV.out HV.out.size (by simp; omega) ?_
              intro v78 w7 ho hb hg hat
              replace HXB := Aside0.mk (blk_grown HXB.out hg (fun he => HO.out.1 _ he.symm rfl))
              replace HGB := Aside0.mk (blk_grown HGB.out hg (fun he => own_ne HO.out HGB.out he))
              obtain ⟨A9, c9, rfl⟩ := Kd.R_slice ho
              obtain ⟨n9, hn9⟩ : ∃ n9, n9 = ([] ++ L ++ [(x, false)]).length := ⟨_, rfl⟩
              rw [← hn9] at ho ⊢
              obtain rfl : n9 = L.length + 1 := by rw [hn9]; simp
              rw [List.nil_append] at ho
              clear hn9
              clear HO
              have HO := Aside0.mk ho
              replace HV := Aside0.mk hb
              clear ho hb hg hat
              refine hK_.out _ _ ⟨pw_cell_below HV.out HX0.out, pw_cell_below HV.out HX1.out, pw_cell_below HV.out HX2.out⟩ (fun hHeld => ?_)
              clear hK_ Kq_
              refine norm_ (a' := ?_) ?_ ?_
              rotate_left
              · show Act.put _ (some 93) _ = _
                simp only [Act.put, List.setIfInBounds_toArray, List.set_cons_zero, List.set_cons_succ]
                rfl
              refine pure_ (i := 14) (N := some 94) (v := ?_) (a' := ?_) #[t,t,t,t,t,t,t,t,t,t,t,t,t,t,t,t,f] rfl rfl (any_of HT_.out (by kernel_rfl)) (fun _ _ _ h => h) (Or.inl ⟨by rfl, ?_⟩) ?_ ?_
              rotate_left; · intro w'; go_simp; with_reducible rfl
              rotate_left; · simp only [Act.put, List.setIfInBounds_toArray, List.set_cons_zero, List.set_cons_succ]; rfl
              have h_ := hc_ (v70, v73, A9, c9, kx, kg) _ ⟨R_not_found HO.out HGB.out, HGB.out, HV.out, HGK.out⟩
              simp only [putAll, Act.put, List.setIfInBounds_toArray, List.set_cons_zero, List.set_cons_succ] at h_
              exact h_
          · refine newcells_ (.cells #[.int .u64 0, .bool false, .slice none 0 0] 25) (fun k => .pointer (some ⟨k, 0, none⟩)) (by rfl) rfl ?hr ?_
            (case hr => first | (go_simp; done) | (go_simp; rfl))
            intro kg W' hk_ hnew hb
            replace HXB := Aside0.mk ((hb.block _ (blk_lt HXB.out)).trans HXB.out)
            have HGK := Aside0.mk (show W1.heap.size ≤ kg from by have h1 := HV.out.size; omega)
            have HGB := Aside0.mk hnew
            replace HV := Aside0.mk (HV.out.trans (hb.mono HV.out.size))
            clear hk_ hnew hb
            refine hK_.out _ _ ⟨pw_cell_below HV.out HX0.out, pw_cell_below HV.out HX1.out, pw_cell_below HV.out HX2.out⟩ (fun hHeld => ?_)
            clear hK_ Kq_
            refine norm_ (a' := ?_) ?_ ?_
            rotate_left
            · show Act.put _ (some 11) _ = _
              simp only [Act.put, List.setIfInBounds_toArray, List.set_cons_zero, List.set_cons_succ]
              rfl
            refine one_ (i := 4) (N := some 84) #[t,t,t,t,t,t,t,f,t,t,t,t,t,f,f,t,f] rfl rfl (one_of HT_.out (by kernel_rfl)) (by decide) (fun Kq_ hK_ => ?_)
            refine Kd.R_lit_step Lk (w0 := W1) W1.heap.size 35 (by rfl) (N := 84) rfl (xs := []) (inner := []) (ok := fun k => k ≠ kx) (okp := fun k => k ≠ kx) ?hr (by constructor <;> simp) (fun _ hk => hk) (by have h1 := blk_lt HXB.out; omega) HV.out HV.out.size (by simp) ?_
            (case hr => first | (go_simp; done) | (go_simp; rfl))
            intro v70 w4 ho hb hg hat
            replace HXB := Aside0.mk (blk_grown HXB.out hg (by simp))
            replace HGB := Aside0.mk (blk_grown HGB.out hg (by simp))
            have HO := Aside0.mk ho
            replace HV := Aside0.mk hb
            clear ho hb hg hat
            refine hK_.out _ _ ⟨pw_cell_below HV.out HX0.out, pw_cell_below HV.out HX1.out, pw_cell_below HV.out HX2.out⟩ (fun hHeld => ?_)
            clear hK_ Kq_
            refine norm_ (a' := ?_) ?_ ?_
            rotate_left
            · show Act.put _ (some 84) _ = _
              simp only [Act.put, List.setIfInBounds_toArray, List.set_cons_zero, List.set_cons_succ]
              rfl
            refine one_ (i := 7) (N := some 87) #[t,t,t,t,t,t,t,t,t,t,t,t,t,f,f,t,f] rfl rfl (one_of HT_.out (by kernel_rfl)) (by decide) (fun Kq_ hK_ => ?_)
            refine Kd.R_append_rows_step Lk (w0 := W1) W1.heap.size (by rfl) (.tmp 84) (.tmp 86) 23 35 (.agg #[.int .u64 0, .bool false]) 16 rfl Try.underlying23 infoLk rfl Nat.two_pos (by omega) v70 [] L A4 L.length c4 (fun k => k ≠ kx) (fun _ => False) rfl rfl HO.out (Kd.C_below HR4.out HV.out) (fun _ _ hh => hh) (fun _ hk => hk.elim) (fun k hk => by have h1 := blk_lt HXB.out; omega) HV.out HV.out.size (by simp; omega) ?_
            intro v73 w7 ho hb hg hat
            replace HXB := Aside0.mk (blk_grown HXB.out hg (fun he => HO.out.1 _ he.symm rfl))
            replace HGB := Aside0.mk (blk_grown HGB.out hg (fun he => own_ne HO.out HGB.out he))
            clear HO
            have HO := Aside0.mk ho
            replace HV := Aside0.mk hb
            clear ho hb hg hat
            refine hK_.out _ _ ⟨pw_cell_below HV.out HX0.out, pw_cell_below HV.out HX1.out, pw_cell_below HV.out HX2.out⟩ (fun hHeld => ?_)
            clear hK_ Kq_
            refine norm_ (a' := ?_) ?_ ?_
            rotate_left
            · show Act.put _ (some 87) _ = _
              simp only [Act.put, List.setIfInBounds_toArray, List.set_cons_zero, List.set_cons_succ]
              rfl
            refine one_ (i := 13) (N := some 93) #[t,t,t,t,t,t,t,t,t,t,t,t,t,t,f,t,f] rfl rfl (one_of HT_.out (by kernel_rfl)) (by decide) (fun Kq_ hK_ => ?_)
            refine Kd.R_append_rows_step Lk (w0 := W1) W1.heap.size (by rfl) (.tmp 87) (.tmp 92) 23 35 (.agg #[.int .u64 0, .bool false]) 16 rfl Try.underlying23 infoLk rfl Nat.two_pos (by omega) v73 ([] ++ L) [(x, false)] (some ⟨kx, 0, none⟩) 1 1 (fun k => k ≠ kx) (fun _ => False) rfl rfl HO.out (C_oneLk HXB.out) (fun _ _ hh => hh) (fun _ hk => hk.elim) (fun k hk => by have h1 := blk_lt HXB.out; omega) HV.out HV.out.size (by simp; omega) ?_
            intro v78 w7 ho hb hg hat
            replace HXB := Aside0.mk (blk_grown HXB.out hg (fun he => HO.out.1 _ he.symm rfl))
            replace HGB := Aside0.mk (blk_grown HGB.out hg (fun he => own_ne HO.out HGB.out he))
            obtain ⟨A9, c9, rfl⟩ := Kd.R_slice ho
            obtain ⟨n9, hn9⟩ : ∃ n9, n9 = ([] ++ L ++ [(x, false)]).length := ⟨_, rfl⟩
            rw [← hn9] at ho ⊢
            obtain rfl : n9 = L.length + 1 := by rw [hn9]; simp
            rw [List.nil_append] at ho
            clear hn9
            clear HO
            have HO := Aside0.mk ho
            replace HV := Aside0.mk hb
            clear ho hb hg hat
            refine hK_.out _ _ ⟨pw_cell_below HV.out HX0.out, pw_cell_below HV.out HX1.out, pw_cell_below HV.out HX2.out⟩ (fun hHeld => ?_)
            clear hK_ Kq_
            refine norm_ (a' := ?_) ?_ ?_
            rotate_left
            · show Act.put _ (some 93) _ = _
              simp only [Act.put, List.setIfInBounds_toArray, List.set_cons_zero, List.set_cons_succ]
              rfl
            refine pure_ (i := 14) (N := some 94) (v := ?_) (a' := ?_) #[t,t,t,t,t,t,t,t,t,t,t,t,t,t,t,t,f] rfl rfl (any_of HT_.out (by kernel_rfl)) (fun _ _ _ h => h) (Or.inl ⟨by rfl, ?_⟩) ?_ ?_
            rotate_left; · intro w'; go_simp; with_reducible rfl
            rotate_left; · simp only [Act.put, List.setIfInBounds_toArray, List.set_cons_zero, List.set_cons_succ]; rfl
            have h_ := hc_ (v70, v73, A9, c9, kx, kg) _ ⟨R_not_found HO.out HGB.out, HGB.out, HV.out, HGK.out⟩
            simp only [putAll, Act.put, List.setIfInBounds_toArray, List.set_cons_zero, List.set_cons_succ] at h_
            exact h_
        · refine newcells_ (.cells #[.int .u64 0, .bool false, .slice none 0 0] 25) (fun k => .pointer (some ⟨k, 0, none⟩)) (by rfl) rfl ?hr ?_
          (case hr => first | (go_simp; done) | (go_simp; rfl))
          intro kg W' hk_ hnew hb
          have HGK := Aside0.mk (show W1.heap.size ≤ kg from by have h1 := HV.out.size; omega)
          have HGB := Aside0.mk hnew
          replace HV := Aside0.mk (HV.out.trans (hb.mono HV.out.size))
          clear hk_ hnew hb
          refine hK_.out _ _ ⟨pw_cell_below HV.out HX0.out, pw_cell_below HV.out HX1.out, pw_cell_below HV.out HX2.out⟩ (fun hHeld => ?_)
          clear hK_ Kq_
          refine norm_ (a' := ?_) ?_ ?_
          rotate_left
          · show Act.put _ (some 11) _ = _
            simp only [Act.put, List.setIfInBounds_toArray, List.set_cons_zero, List.set_cons_succ]
            rfl
          refine two_ (i := 4) (j := 12) (Ni := some 84) (Nj := some 92) #[t,t,t,t,t,t,t,f,t,t,t,t,f,f,f,t,f] #[t,t,t,t,f,t,t,f,t,t,t,t,t,f,f,t,f] rfl rfl rfl rfl (two_of HT_.out (by kernel_rfl)) (by decide) (by decide) (fun Kq_ hK_ => ?_) (fun Kq_ hK_ => ?_)
          · refine Kd.R_lit_step Lk (w0 := W1) W1.heap.size 35 (by rfl) (N := 84) rfl (xs := []) (inner := []) (ok := fun _ => True) (okp := fun _ => True) ?hr (by constructor <;> simp) (fun _ hk => hk) trivial HV.out HV.out.size (by simp) ?_
            (case hr => first | (go_simp; done) | (go_simp; rfl))
            intro v70 w4 ho hb hg hat
            replace HGB := Aside0.mk (blk_grown HGB.out hg (by simp))
            have HO := Aside0.mk ho
            replace HV := Aside0.mk hb
            clear ho hb hg hat
            refine hK_.out _ _ ⟨pw_cell_below HV.out HX0.out, pw_cell_below HV.out HX1.out, pw_cell_below HV.out HX2.out⟩ (fun hHeld => ?_)
            clear hK_ Kq_
            refine norm_ (a' := ?_) ?_ ?_
            rotate_left
            · show Act.put _ (some 84) _ = _
              simp only [Act.put, List.setIfInBounds_toArray, List.set_cons_zero, List.set_cons_succ]
              rfl
            refine two_ (i := 7) (j := 12) (Ni := some 87) (Nj := some 92) #[t,t,t,t,t,t,t,t,t,t,t,t,f,f,f,t,f] #[t,t,t,t,t,t,t,f,t,t,t,t,t,f,f,t,f] rfl rfl rfl rfl (two_of HT_.out (by kernel_rfl)) (by decide) (by decide) (fun Kq_ hK_ => ?_) (fun Kq_ hK_ => ?_)
            · refine Kd.R_append_rows_step Lk (w0 := W1) W1.heap.size (by rfl) (.tmp 84) (.tmp 86) 23 35 (.agg #[.int .u64 0, .bool false]) 16 rfl Try.underlying23 infoLk rfl Nat.two_pos (by omega) v70 [] L A4 L.length c4 (fun _ => True) (fun _ => False) rfl rfl HO.out (Kd.C_below HR4.out HV.out) (fun _ _ hh => hh) (fun _ hk => hk.elim) (fun _ _ => trivial) HV.out HV.out.size (by simp; omega) ?_
              intro v73 w7 ho hb hg hat
              replace HGB := Aside0.mk (blk_grown HGB.out hg (fun he => own_ne HO.out HGB.out he))
              clear HO
              have HO := Aside0.mk ho
              replace HV := Aside0.mk hb
              clear ho hb hg hat
              refine hK_.out _ _ ⟨pw_cell_below HV.out HX0.out, pw_cell_below HV.out HX1.out, pw_cell_below HV.out HX2.out⟩ (fun hHeld => ?_)
              clear hK_ Kq_
              refine norm_ (a' := ?_) ?_ ?_
              rotate_left
              · show Act.put _ (some 87) _ = _
                simp only [Act.put, List.setIfInBounds_toArray, List.set_cons_zero, List.set_cons_succ]
                rfl
              refine one_ (i := 12) (N := some 92) #[t,t,t,t,t,t,t,t,t,t,t,t,t,f,f,t,f] rfl rfl (one_of HT_.out (by kernel_rfl)) (by decide) (fun Kq_ hK_ => ?_)
              refine newcells_ (.cells #[.int .u64 x, .bool false] 35) (fun k => .slice (some ⟨k, 0, none⟩) 1 1) (by rfl) rfl ?hr ?_
              (case hr => first | (go_simp; done) | (go_simp; rfl))
              intro kx W' hk_ hnew hb
              replace HO := Aside0.mk (show Kd.R Lk 35 W' W1.heap.size (fun k => k ≠ kx) v73 ([] ++ L) from Kd.R_mono (Kd.R_below (Kd.R_bound HO.out) hb) (fun k hk => by have h1 := hk.2.2.1; omega))
              replace HGB := Aside0.mk ((hb.block _ (blk_lt HGB.out)).trans HGB.out)
              have HXB := Aside0.mk hnew
              replace HV := Aside0.mk (HV.out.trans (hb.mono HV.out.size))
              clear hk_ hnew hb
              refine hK_.out _ _ ⟨pw_cell_below HV.out HX0.out, pw_cell_below HV.out HX1.out, pw_cell_below HV.out HX2.out⟩ (fun hHeld => ?_)
              clear hK_ Kq_
              refine norm_ (a' := ?_) ?_ ?_
              rotate_left
              · show Act.put _ (some 92) _ = _
                simp only [Act.put, List.setIfInBounds_toArray, List.set_cons_zero, List.set_cons_succ]
                rfl
              refine one_ (i := 13) (N := some 93) #[t,t,t,t,t,t,t,t,t,t,t,t,t,t,f,t,f] rfl rfl (one_of HT_.out (by kernel_rfl)) (by decide) (fun Kq_ hK_ => ?_)
              refine Kd.R_append_rows_step Lk (w0 := W1) W1.heap.size (by rfl) (.tmp 87) (.tmp 92) 23 35 (.agg #[.int .u64 0, .bool false]) 16 rfl Try.underlying23 infoLk rfl Nat.two_pos (by omega) v73 ([] ++ L) [(x, false)] (some ⟨kx, 0, none⟩) 1 1 (fun k => k ≠ kx) (fun _ => False) rfl rfl HO.out (C_oneLk HXB.out) (fun _ _ hh => hh) (fun _ hk => hk.elim) (fun k hk => by have h1 := blk_lt HXB.out; omega) HV.out HV.out.size (by simp; omega) ?_
              intro v78 w7 ho hb hg hat
              replace HXB := Aside0.mk (blk_grown HXB.out hg (fun he => HO.out.1 _ he.symm rfl))
              replace HGB := Aside0.mk (blk_grown HGB.out hg (fun he => own_ne HO.out HGB.out he))
              obtain ⟨A9, c9, rfl⟩ := Kd.R_slice ho
              obtain ⟨n9, hn9⟩ : ∃ n9, n9 = ([] ++ L ++ [(x, false)]).length := ⟨_, rfl⟩
              rw [← hn9] at ho ⊢
              obtain rfl : n9 = L.length + 1 := by rw [hn9]; simp
              rw [List.nil_append] at ho
              clear hn9
              clear HO
              have HO := Aside0.mk ho
              replace HV := Aside0.mk hb
              clear ho hb hg hat
              refine hK_.out _ _ ⟨pw_cell_below HV.out HX0.out, pw_cell_below HV.out HX1.out, pw_cell_below HV.out HX2.out⟩ (fun hHeld => ?_)
              clear hK_ Kq_
              refine norm_ (a' := ?_) ?_ ?_
              rotate_left
              · show Act.put _ (some 93) _ = _
                simp only [Act.put, List.setIfInBounds_toArray, List.set_cons_zero, List.set_cons_succ]
                rfl
              refine pure_ (i := 14) (N := some 94) (v := ?_) (a' := ?_) #[t,t,t,t,t,t,t,t,t,t,t,t,t,t,t,t,f] rfl rfl (any_of HT_.out (by kernel_rfl)) (fun _ _ _ h => h) (Or.inl ⟨by rfl, ?_⟩) ?_ ?_
              rotate_left; · intro w'; go_simp; with_reducible rfl
              rotate_left; · simp only [Act.put, List.setIfInBounds_toArray, List.set_cons_zero, List.set_cons_succ]; rfl
              have h_ := hc_ (v70, v73, A9, c9, kx, kg) _ ⟨R_not_found HO.out HGB.out, HGB.out, HV.out, HGK.out⟩
              simp only [putAll, Act.put, List.setIfInBounds_toArray, List.set_cons_zero, List.set_cons_succ] at h_
              exact h_
            · refine newcells_ (.cells #[.int .u64 x, .bool false] 35) (fun k => .slice (some ⟨k, 0, none⟩) 1 1) (by rfl) rfl ?hr ?_
              (case hr => first | (go_simp; done) | (go_simp; rfl))
              intro kx W' hk_ hnew hb
              replace HO := Aside0.mk (show Kd.R Lk 35 W' W1.heap.size (fun k => k ≠ kx) v70 [] from Kd.R_mono (Kd.R_below (Kd.R_bound HO.out) hb) (fun k hk => by have h1 := hk.2.2.1; omega))
              replace HGB := Aside0.mk ((hb.block _ (blk_lt HGB.out)).trans HGB.out)
              have HXB := Aside0.mk hnew
              replace HV := Aside0.mk (HV.out.trans (hb.mono HV.out.size))
              clear hk_ hnew hb
              refine hK_.out _ _ ⟨pw_cell_below HV.out HX0.out, pw_cell_below HV.out HX1.out, pw_cell_below HV.out HX2.out⟩ (fun hHeld => ?_)
              clear hK_ Kq_
              refine norm_ (a' := ?_) ?_ ?_
              rotate_left
              · show Act.put _ (some 92) _ = _
                simp only [Act.put, List.setIfInBounds_toArray, List.set_cons_zero, List.set_cons_succ]
                rfl
              refine one_ (i := 7) (N := some 87) #[t,t,t,t,t,t,t,t,t,t,t,t,t,f,f,t,f] rfl rfl (one_of HT_.out (by kernel_rfl)) (by decide) (fun Kq_ hK_ => ?_)
              refine Kd.R_append_rows_step Lk (w0 := W1) W1.heap.size (by rfl) (.tmp 84) (.tmp 86) 23 35 (.agg #[.int .u64 0, .bool false]) 16 rfl Try.underlying23 infoLk rfl Nat.two_pos (by omega) v70 [] L A4 L.length c4 (fun k => k ≠ kx) (fun _ => False) rfl rfl HO.out (Kd.C_below HR4.out HV.out) (fun _ _ hh => hh) (fun _ hk => hk.elim) (fun k hk => by have h1 := blk_lt HXB.out; omega) HV.out HV.out.size (by simp; omega) ?_
              intro v73 w7 ho hb hg hat
              replace HXB := Aside0.mk (blk_grown HXB.out hg (fun he => HO.out.1 _ he.symm rfl))
              replace HGB := Aside0.mk (blk_grown HGB.out hg (fun he => own_ne HO.out HGB.out he))
              clear HO
              have HO := Aside0.mk ho
              replace HV := Aside0.mk hb
              clear ho hb hg hat
              refine hK_.out _ _ ⟨pw_cell_below HV.out HX0.out, pw_cell_below HV.out HX1.out, pw_cell_below HV.out HX2.out⟩ (fun hHeld => ?_)
              clear hK_ Kq_
              refine norm_ (a' := ?_) ?_ ?_
              rotate_left
              · show Act.put _ (some 87) _ = _
                simp only [Act.put, List.setIfInBounds_toArray, List.set_cons_zero, List.set_cons_succ]
                rfl
              refine one_ (i := 13) (N := some 93) #[t,t,t,t,t,t,t,t,t,t,t,t,t,t,f,t,f] rfl rfl (one_of HT_.out (by kernel_rfl)) (by decide) (fun Kq_ hK_ => ?_)
              refine Kd.R_append_rows_step Lk (w0 := W1) W1.heap.size (by rfl) (.tmp 87) (.tmp 92) 23 35 (.agg #[.int .u64 0, .bool false]) 16 rfl Try.underlying23 infoLk rfl Nat.two_pos (by omega) v73 ([] ++ L) [(x, false)] (some ⟨kx, 0, none⟩) 1 1 (fun k => k ≠ kx) (fun _ => False) rfl rfl HO.out (C_oneLk HXB.out) (fun _ _ hh => hh) (fun _ hk => hk.elim) (fun k hk => by have h1 := blk_lt HXB.out; omega) HV.out HV.out.size (by simp; omega) ?_
              intro v78 w7 ho hb hg hat
              replace HXB := Aside0.mk (blk_grown HXB.out hg (fun he => HO.out.1 _ he.symm rfl))
              replace HGB := Aside0.mk (blk_grown HGB.out hg (fun he => own_ne HO.out HGB.out he))
              obtain ⟨A9, c9, rfl⟩ := Kd.R_slice ho
              obtain ⟨n9, hn9⟩ : ∃ n9, n9 = ([] ++ L ++ [(x, false)]).length := ⟨_, rfl⟩
              rw [← hn9] at ho ⊢
              obtain rfl : n9 = L.length + 1 := by rw [hn9]; simp
              rw [List.nil_append] at ho
              clear hn9
              clear HO
              have HO := Aside0.mk ho
              replace HV := Aside0.mk hb
              clear ho hb hg hat
              refine hK_.out _ _ ⟨pw_cell_below HV.out HX0.out, pw_cell_below HV.out HX1.out, pw_cell_below HV.out HX2.out⟩ (fun hHeld => ?_)
              clear hK_ Kq_
              refine norm_ (a' := ?_) ?_ ?_
              rotate_left
              · show Act.put _ (some 93) _ = _
                simp only [Act.put, List.setIfInBounds_toArray, List.set_cons_zero, List.set_cons_succ]
                rfl
              refine pure_ (i := 14) (N := some 94) (v := ?_) (a' := ?_) #[t,t,t,t,t,t,t,t,t,t,t,t,t,t,t,t,f] rfl rfl (any_of HT_.out (by kernel_rfl)) (fun _ _ _ h => h) (Or.inl ⟨by rfl, ?_⟩) ?_ ?_
              rotate_left; · intro w'; go_simp; with_reducible rfl
              rotate_left; · simp only [Act.put, List.setIfInBounds_toArray, List.set_cons_zero, List.set_cons_succ]; rfl
              have h_ := hc_ (v70, v73, A9, c9, kx, kg) _ ⟨R_not_found HO.out HGB.out, HGB.out, HV.out, HGK.out⟩
              simp only [putAll, Act.put, List.setIfInBounds_toArray, List.set_cons_zero, List.set_cons_succ] at h_
              exact h_
          · refine newcells_ (.cells #[.int .u64 x, .bool false] 35) (fun k => .slice (some ⟨k, 0, none⟩) 1 1) (by rfl) rfl ?hr ?_
            (case hr => first | (go_simp; done) | (go_simp; rfl))
            intro kx W' hk_ hnew hb
            replace HGB := Aside0.mk ((hb.block _ (blk_lt HGB.out)).trans HGB.out)
            have HXB := Aside0.mk hnew
            replace HV := Aside0.mk (HV.out.trans (hb.mono HV.out.size))
            clear hk_ hnew hb
            refine hK_.out _ _ ⟨pw_cell_below HV.out HX0.out, pw_cell_below HV.out HX1.out, pw_cell_below HV.out HX2.out⟩ (fun hHeld => ?_)
            clear hK_ Kq_
            refine norm_ (a' := ?_) ?_ ?_
            rotate_left
            · show Act.put _ (some 92) _ = _
              simp only [Act.put, List.setIfInBounds_toArray, List.set_cons_zero, List.set_cons_succ]
              rfl
            refine one_ (i := 4) (N := some 84) #[t,t,t,t,t,t,t,f,t,t,t,t,t,f,f,t,f] rfl rfl (one_of HT_.out (by kernel_rfl)) (by decide) (fun Kq_ hK_ => ?_)
            refine Kd.R_lit_step Lk (w0 := W1) W1.heap.size 35 (by rfl) (N := 84) rfl (xs := []) (inner := []) (ok := fun k => k ≠ kx) (okp := fun k => k ≠ kx) ?hr (by constructor <;> simp) (fun _ hk => hk) (by have h1 := blk_lt HXB.out; omega) HV.out HV.out.size (by simp) ?_
            (case hr => first | (go_simp; done) | (go_simp; rfl))
            intro v70 w4 ho hb hg hat
            replace HXB := Aside0.mk (blk_grown HXB.out hg (by simp))
            replace HGB := Aside0.mk (blk_grown HGB.out hg (by simp))
            have HO := Aside0.mk ho
            replace HV := Aside0.mk hb
            clear ho hb hg hat
            refine hK_.out _ _ ⟨pw_cell_below HV.out HX0.out, pw_cell_below HV.out HX1.out, pw_cell_below HV.out HX2.out⟩ (fun hHeld => ?_)
            clear hK_ Kq_
            refine norm_ (a' := ?_) ?_ ?_
            rotate_left
            · show Act.put _ (some 84) _ = _
              simp only [Act.put, List.setIfInBounds_toArray, List.set_cons_zero, List.set_cons_succ]
              rfl
            refine one_ (i := 7) (N := some 87) #[t,t,t,t,t,t,t,t,t,t,t,t,t,f,f,t,f] rfl rfl (one_of HT_.out (by kernel_rfl)) (by decide) (fun Kq_ hK_ => ?_)
            refine Kd.R_append_rows_step Lk (w0 := W1) W1.heap.size (by rfl) (.tmp 84) (.tmp 86) 23 35 (.agg #[.int .u64 0, .bool false]) 16 rfl Try.underlying23 infoLk rfl Nat.two_pos (by omega) v70 [] L A4 L.length c4 (fun k => k ≠ kx) (fun _ => False) rfl rfl HO.out (Kd.C_below HR4.out HV.out) (fun _ _ hh => hh) (fun _ hk => hk.elim) (fun k hk => by have h1 := blk_lt HXB.out; omega) HV.out HV.out.size (by simp; omega) ?_
            intro v73 w7 ho hb hg hat
            replace HXB := Aside0.mk (blk_grown HXB.out hg (fun he => HO.out.1 _ he.symm rfl))
            replace HGB := Aside0.mk (blk_grown HGB.out hg (fun he => own_ne HO.out HGB.out he))
            clear HO
            have HO := Aside0.mk ho
            replace HV := Aside0.mk hb
            clear ho hb hg hat
            refine hK_.out _ _ ⟨pw_cell_below HV.out HX0.out, pw_cell_below HV.out HX1.out, pw_cell_below HV.out HX2.out⟩ (fun hHeld => ?_)
            clear hK_ Kq_
            refine norm_ (a' := ?_) ?_ ?_
            rotate_left
            · show Act.put _ (some 87) _ = _
              simp only [Act.put, List.setIfInBounds_toArray, List.set_cons_zero, List.set_cons_succ]
              rfl
            refine one_ (i := 13) (N := some 93) #[t,t,t,t,t,t,t,t,t,t,t,t,t,t,f,t,f] rfl rfl (one_of HT_.out (by kernel_rfl)) (by decide) (fun Kq_ hK_ => ?_)
            refine Kd.R_append_rows_step Lk (w0 := W1) W1.heap.size (by rfl) (.tmp 87) (.tmp 92) 23 35 (.agg #[.int .u64 0, .bool false]) 16 rfl Try.underlying23 infoLk rfl Nat.two_pos (by omega) v73 ([] ++ L) [(x, false)] (some ⟨kx, 0, none⟩) 1 1 (fun k => k ≠ kx) (fun _ => False) rfl rfl HO.out (C_oneLk HXB.out) (fun _ _ hh => hh) (fun _ hk => hk.elim) (fun k hk => by have h1 := blk_lt HXB.out; omega) HV.out HV.out.size (by simp; omega) ?_
            intro v78 w7 ho hb hg hat
            replace HXB := Aside0.mk (blk_grown HXB.out hg (fun he => HO.out.1 _ he.symm rfl))
            replace HGB := Aside0.mk (blk_grown HGB.out hg (fun he => own_ne HO.out HGB.out he))
            obtain ⟨A9, c9, rfl⟩ := Kd.R_slice ho
            obtain ⟨n9, hn9⟩ : ∃ n9, n9 = ([] ++ L ++ [(x, false)]).length := ⟨_, rfl⟩
            rw [← hn9] at ho ⊢
            obtain rfl : n9 = L.length + 1 := by rw [hn9]; simp
            rw [List.nil_append] at ho
            clear hn9
            clear HO
            have HO := Aside0.mk ho
            replace HV := Aside0.mk hb
            clear ho hb hg hat
            refine hK_.out _ _ ⟨pw_cell_below HV.out HX0.out, pw_cell_below HV.out HX1.out, pw_cell_below HV.out HX2.out⟩ (fun hHeld => ?_)
            clear hK_ Kq_
            refine norm_ (a' := ?_) ?_ ?_
            rotate_left
            · show Act.put _ (some 93) _ = _
              simp only [Act.put, List.setIfInBounds_toArray, List.set_cons_zero, List.set_cons_succ]
              rfl
            refine pure_ (i := 14) (N := some 94) (v := ?_) (a' := ?_) #[t,t,t,t,t,t,t,t,t,t,t,t,t,t,t,t,f] rfl rfl (any_of HT_.out (by kernel_rfl)) (fun _ _ _ h => h) (Or.inl ⟨by rfl, ?_⟩) ?_ ?_
            rotate_left; · intro w'; go_simp; with_reducible rfl
            rotate_left; · simp only [Act.put, List.setIfInBounds_toArray, List.set_cons_zero, List.set_cons_succ]; rfl
            have h_ := hc_ (v70, v73, A9, c9, kx, kg) _ ⟨R_not_found HO.out HGB.out, HGB.out, HV.out, HGK.out⟩
            simp only [putAll, Act.put, List.setIfInBounds_toArray, List.set_cons_zero, List.set_cons_succ] at h_
            exact h_
      refine three_ (i := 4) (j := 11) (k := 14) (Ni := some 70) (Nj := some 77) (Nk := some 10) #[t,t,t,t,t,t,t,f,t,t,t,f,f,f,f,f] #[t,t,t,t,f,t,t,f,t,t,t,t,f,f,f,f] #[t,t,t,t,f,t,t,f,t,t,t,f,f,f,t,f] rfl rfl rfl rfl rfl rfl (three_of HT_.out (by kernel_rfl)) (by decide) (by decide) (by decide) (fun Kq_ hK_ => ?_) (fun Kq_ hK_ => ?_) (fun Kq_ hK_ => ?_)
      · refine Kd.R_lit_step Lk (w0 := W1) W1.heap.size 35 (by rfl) (N := 70) rfl (xs := []) (inner := []) (ok := fun _ => True) (okp := fun _ => True) ?hr (by constructor <;> simp) (fun _ hk => hk) trivial HV.out HV.out.size (by simp) ?_
        (case hr => first | (go_simp; done) | (go_simp; rfl))
        intro v70 w4 ho hb hg hat
        have HO := Aside0.mk ho
        replace HV := Aside0.mk hb
        clear ho hb hg hat
        refine hK_.out _ _ ⟨pw_cell_below HV.out HX0.out, pw_cell_below HV.out HX1.out, pw_cell_below HV.out HX2.out⟩ (fun hHeld => ?_)
        clear hK_ Kq_
        refine norm_ (a' := ?_) ?_ ?_
        rotate_left
        · show Act.put _ (some 70) _ = _
          simp only [Act.put, List.setIfInBounds_toArray, List.set_cons_zero, List.set_cons_succ]
          rfl
        refine three_ (i := 7) (j := 11) (k := 14) (Ni := some 73) (Nj := some 77) (Nk := some 10) #[t,t,t,t,t,t,t,t,t,t,t,f,f,f,f,f] #[t,t,t,t,t,t,t,f,t,t,t,t,f,f,f,f] #[t,t,t,t,t,t,t,f,t,t,t,f,f,f,t,f] rfl rfl rfl rfl rfl rfl (three_of HT_.out (by kernel_rfl)) (by decide) (by decide) (by decide) (fun Kq_ hK_ => ?_) (fun Kq_ hK_ => ?_) (fun Kq_ hK_ => ?_)
        · refine Kd.R_append_rows_step Lk (w0 := W1) W1.heap.size (by rfl) (.tmp 70) (.tmp 72) 23 35 (.agg #[.int .u64 0, .bool false]) 16 rfl Try.underlying23 infoLk rfl Nat.two_pos (by omega) v70 [] L A4 L.length c4 (fun _ => True) (fun _ => False) rfl rfl HO.out (Kd.C_below HR4.out HV.out) (fun _ _ hh => hh) (fun _ hk => hk.elim) (fun _ _ => trivial) HV.out HV.out.size (by simp; omega) ?_
          intro v73 w7 ho hb hg hat
          clear HO
          have HO := Aside0.mk ho
          replace HV := Aside0.mk hb
          clear ho hb hg hat
          refine hK_.out _ _ ⟨pw_cell_below HV.out HX0.out, pw_cell_below HV.out HX1.out, pw_cell_below HV.out HX2.out⟩ (fun hHeld => ?_)
          clear hK_ Kq_
          refine norm_ (a' := ?_) ?_ ?_
          rotate_left
          · show Act.put _ (some 73) _ = _
            simp only [Act.put, List.setIfInBounds_toArray, List.set_cons_zero, List.set_cons_succ]
            rfl
          refine two_ (i := 11) (j := 14) (Ni := some 77) (Nj := some 10) #[t,t,t,t,t,t,t,t,t,t,t,t,f,f,f,f] #[t,t,t,t,t,t,t,t,t,t,t,f,f,f,t,f] rfl rfl rfl rfl (two_of HT_.out (by kernel_rfl)) (by decide) (by decide) (fun Kq_ hK_ => ?_) (fun Kq_ hK_ => ?_)
          · refine newcells_ (.cells #[.int .u64 x, .bool true] 35) (fun k => .slice (some ⟨k, 0, none⟩) 1 1) (by rfl) rfl ?hr ?_
            (case hr => first | (go_simp; done) | (go_simp; rfl))
            intro kx W' hk_ hnew hb
            replace HO := Aside0.mk (show Kd.R Lk 35 W' W1.heap.size (fun k => k ≠ kx) v73 ([] ++ L) from Kd.R_mono (Kd.R_below (Kd.R_bound HO.out) hb) (fun k hk => by have h1 := hk.2.2.1; omega))
            have HXB := Aside0.mk hnew
            replace HV := Aside0.mk (HV.out.trans (hb.mono HV.out.size))
            clear hk_ hnew hb
            refine hK_.out _ _ ⟨pw_cell_below HV.out HX0.out, pw_cell_below HV.out HX1.out, pw_cell_below HV.out HX2.out⟩ (fun hHeld => ?_)
            clear hK_ Kq_
            refine norm_ (a' := ?_) ?_ ?_
            rotate_left
            · show Act.put _ (some 77) _ = _
              simp only [Act.put, List.setIfInBounds_toArray, List.set_cons_zero, List.set_cons_succ]
              rfl
            refine two_ (i := 12) (j := 14) (Ni := some 78) (Nj := some 10) #[t,t,t,t,t,t,t,t,t,t,t,t,t,f,f,f] #[t,t,t,t,t,t,t,t,t,t,t,t,f,f,t,f] rfl rfl rfl rfl (two_of HT_.out (by kernel_rfl)) (by decide) (by decide) (fun Kq_ hK_ => ?_) (fun Kq_ hK_ => ?_)
            · refine Kd.R_append_rows_step Lk (w0 := W1) W1.heap.size (by rfl) (.tmp 73) (.tmp 77) 23 35 (.agg #[.int .u64 0, .bool false]) 16 rfl Try.underlying23 infoLk rfl Nat.two_pos (by omega) v73 ([] ++ L) [(x, true)] (some ⟨kx, 0, none⟩) 1 1 (fun k => k ≠ kx) (fun _ => False) rfl rfl HO.out (C_oneLk HXB.out) (fun _ _ hh => hh) (fun _ hk => hk.elim) (fun k hk => by have h1 := blk_lt HXB.out; omega) HV.out HV.out.size (by simp; omega) ?_
              intro v78 w7 ho hb hg hat
              replace HXB := Aside0.mk (blk_grown HXB.out hg (fun he => HO.out.1 _ he.symm rfl))
              obtain ⟨A9, c9, rfl⟩ := Kd.R_slice ho
              obtain ⟨n9, hn9⟩ : ∃ n9, n9 = ([] ++ L ++ [(x, true)]).length := ⟨_, rfl⟩
              rw [← hn9] at ho ⊢
              obtain rfl : n9 = L.length + 1 := by rw [hn9]; simp
              rw [List.nil_append] at ho
              clear hn9
              clear HO
              have HO := Aside0.mk ho
              replace HV := Aside0.mk hb
              clear ho hb hg hat
              refine hK_.out _ _ ⟨pw_cell_below HV.out HX0.out, pw_cell_below HV.out HX1.out, pw_cell_below HV.out HX2.out⟩ (fun hHeld => ?_)
              clear hK_ Kq_
              refine norm_ (a' := ?_) ?_ ?_
              rotate_left
              · show Act.put _ (some 78) _ = _
                simp only [Act.put, List.setIfInBounds_toArray, List.set_cons_zero, List.set_cons_succ]
                rfl
              refine pure_ (i := 13) (N := some 79) (v := ?_) (a' := ?_) #[t,t,t,t,t,t,t,t,t,t,t,t,t,t,f,f] rfl rfl (any_of HT_.out (by kernel_rfl)) (fun _ _ _ h => h) (Or.inl ⟨by rfl, ?_⟩) ?_ ?_
              rotate_left; · intro w'; go_simp; with_reducible rfl
              rotate_left; · simp only [Act.put, List.setIfInBounds_toArray, List.set_cons_zero, List.set_cons_succ]; rfl
              refine one_ (i := 14) (N := some 10) #[t,t,t,t,t,t,t,t,t,t,t,t,t,t,t,f] rfl rfl (one_of HT_.out (by kernel_rfl)) (by decide) (fun Kq_ hK_ => ?_)
              refine newcells_ (.cells #[.int .u64 0, .bool false, .slice none 0 0] 25) (fun k => .pointer (some ⟨k, 0, none⟩)) (by rfl) rfl ?hr ?_
              (case hr => first | (go_simp; done) | (go_simp; rfl))
              intro kg W' hk_ hnew hb
              replace HO := Aside0.mk (Kd.R_below HO.out hb)
              replace HXB := Aside0.mk ((hb.block _ (blk_lt HXB.out)).trans HXB.out)
              have HGK := Aside0.mk (show W1.heap.size ≤ kg from by have h1 := HV.out.size; omega)
              have HGB := Aside0.mk hnew
              replace HV := Aside0.mk (HV.out.trans (hb.mono HV.out.size))
              clear hk_ hnew hb
              refine hK_.out _ _ ⟨pw_cell_below HV.out HX0.out, pw_cell_below HV.out HX1.out, pw_cell_below HV.out HX2.out⟩ (fun hHeld => ?_)
              clear hK_ Kq_
              refine norm_ (a' := ?_) ?_ ?_
              rotate_left
              · show Act.put _ (some 10) _ = _
                simp only [Act.put, List.setIfInBounds_toArray, List.set_cons_zero, List.set_cons_succ]
                rfl
              have h_ := hc_ (v70, v73, A9, c9, kx, kg) _ ⟨R_not_found HO.out HGB.out, HGB.out, HV.out, HGK.out⟩
              simp only [putAll, Act.put, List.setIfInBounds_toArray, List.set_cons_zero, List.set_cons_succ] at h_
              exact h_
            · refine newcells_ (.cells #[.int .u64 0, .bool false, .slice none 0 0] 25) (fun k => .pointer (some ⟨k, 0, none⟩)) (by rfl) rfl ?hr ?_
              (case hr => first | (go_simp; done) | (go_simp; rfl))
              intro kg W' hk_ hnew hb
              replace HO := Aside0.mk (Kd.R_below HO.out hb)
              replace HXB := Aside0.mk ((hb.block _ (blk_lt HXB.out)).trans HXB.out)
              have HGK := Aside0.mk (show W1.heap.size ≤ kg from by have h1 := HV.out.size; omega)
              have HGB := Aside0.mk hnew
              replace HV := Aside0.mk (HV.out.trans (hb.mono HV.out.size))
              clear hk_ hnew hb
              refine hK_.out _ _ ⟨pw_cell_below HV.out HX0.out, pw_cell_below HV.out HX1.out, pw_cell_below HV.out HX2.out⟩ (fun hHeld => ?_)
              clear hK_ Kq_
              refine norm_ (a' := ?_) ?_ ?_
              rotate_left
              · show Act.put _ (some 10) _ = _
                simp only [Act.put, List.setIfInBounds_toArray, List.set_cons_zero, List.set_cons_succ]
                rfl
              refine one_ (i := 12) (N := some 78) #[t,t,t,t,t,t,t,t,t,t,t,t,t,f,t,f] rfl rfl (one_of HT_.out (by kernel_rfl)) (by decide) (fun Kq_ hK_ => ?_)
              refine Kd.R_append_rows_step Lk (w0 := W1) W1.heap.size (by rfl) (.tmp 73) (.tmp 77) 23 35 (.agg #[.int .u64 0, .bool false]) 16 rfl Try.underlying23 infoLk rfl Nat.two_pos (by omega) v73 ([] ++ L) [(x, true)] (some ⟨kx, 0, none⟩) 1 1 (fun k => k ≠ kx) (fun _ => False) rfl rfl HO.out (C_oneLk HXB.out) (fun _ _ hh => hh) (fun _ hk => hk.elim) (fun k hk => by have h1 := blk_lt HXB.out; omega) HV.out HV.out.size (by simp; omega) ?_
              intro v78 w7 ho hb hg hat
              replace HXB := Aside0.mk (blk_grown HXB.out hg (fun he => HO.out.1 _ he.symm rfl))
              replace HGB := Aside0.mk (blk_grown HGB.out hg (fun he => own_ne HO.out HGB.out he))
              obtain ⟨A9, c9, rfl⟩ := Kd.R_slice ho
              obtain ⟨n9, hn9⟩ : ∃ n9, n9 = ([] ++ L ++ [(x, true)]).length := ⟨_, rfl⟩
              rw [← hn9] at ho ⊢
              obtain rfl : n9 = L.length + 1 := by rw [hn9]; simp
              rw [List.nil_append] at ho
              clear hn9
              clear HO
              have HO := Aside0.mk ho
              replace HV := Aside0.mk hb
              clear ho hb hg hat
              refine hK_.out _ _ ⟨pw_cell_below HV.out HX0.out, pw_cell_below HV.out HX1.out, pw_cell_below HV.out HX2.out⟩ (fun hHeld => ?_)
              clear hK_ Kq_
              refine norm_ (a' := ?_) ?_ ?_
              rotate_left
              · show Act.put _ (some 78) _ = _
                simp only [Act.put, List.setIfInBounds_toArray, List.set_cons_zero, List.set_cons_succ]
                rfl
              refine pure_ (i := 13) (N := some 79) (v := ?_) (a' := ?_) #[t,t,t,t,t,t,t,t,t,t,t,t,t,t,t,f] rfl rfl (any_of HT_.out (by kernel_rfl)) (fun _ _ _ h => h) (Or.inl ⟨by rfl, ?_⟩) ?_ ?_
              rotate_left; · intro w'; go_simp; with_reducible rfl
              rotate_left; · simp only [Act.put, List.setIfInBounds_toArray, List.set_cons_zero, List.set_cons_succ]; rfl
              have h_ := hc_ (v70, v73, A9, c9, kx, kg) _ ⟨R_not_found HO.out HGB.out, HGB.out, HV.out, HGK.out⟩
              simp only [putAll, Act.put, List.setIfInBounds_toArray, List.set_cons_zero, List.set_cons_succ] at h_
              exact h_
          · refine newcells_ (.cells #[.int .u64 0, .bool false, .slice none 0 0] 25) (fun k => .pointer (some ⟨k, 0, none⟩)) (by rfl) rfl ?hr ?_
            (case hr => first | (go_simp; done) | (go_simp; rfl))
            intro kg W' hk_ hnew hb
            replace HO := Aside0.mk (Kd.R_below HO.out hb)
            have HGK := Aside0.mk (show W1.heap.size ≤ kg from by have h1 := HV.out.size; omega)
            have HGB := Aside0.mk hnew
            replace HV := Aside0.mk (HV.out.trans (hb.mono HV.out.size))
            clear hk_ hnew hb
            refine hK_.out _ _ ⟨pw_cell_below HV.out HX0.out, pw_cell_below HV.out HX1.out, pw_cell_below HV.out HX2.out⟩ (fun hHeld => ?_)
            clear hK_ Kq_
            refine norm_ (a' := ?_) ?_ ?_
            rotate_left
            · show Act.put _ (some 10) _ = _
              simp only [Act.put, List.setIfInBounds_toArray, List.set_cons_zero, List.set_cons_succ]
              rfl
            refine one_ (i := 11) (N := some 77) #[t,t,t,t,t,t,t,t,t,t,t,t,f,f,t,f] rfl rfl (one_of HT_.out (by kernel_rfl)) (by decide) (fun Kq_ hK_ => ?_)
            refine newcells_ (.cells #[.int .u64 x, .bool true] 35) (fun k => .slice (some ⟨k, 0, none⟩) 1 1) (by rfl) rfl ?hr ?_
            (case hr => first | (go_simp; done) | (go_simp; rfl))
            intro kx W' hk_ hnew hb
            replace HO := Aside0.mk (show Kd.R Lk 35 W' W1.heap.size (fun k => k ≠ kx) v73 ([] ++ L) from Kd.R_mono (Kd.R_below (Kd.R_bound HO.out) hb) (fun k hk => by have h1 := hk.2.2.1; omega))
            replace HGB := Aside0.mk ((hb.block _ (blk_lt HGB.out)).trans HGB.out)
            have HXB := Aside0.mk hnew
            replace HV := Aside0.mk (HV.out.trans (hb.mono HV.out.size))
            clear hk_ hnew hb
            refine hK_.out _ _ ⟨pw_cell_below HV.out HX0.out, pw_cell_below HV.out HX1.out, pw_cell_below HV.out HX2.out⟩ (fun hHeld => ?_)
            clear hK_ Kq_
            refine norm_ (a' := ?_) ?_ ?_
            rotate_left
            · show Act.put _ (some 77) _ = _
              simp only [Act.put, List.setIfInBounds_toArray, List.set_cons_zero, List.set_cons_succ]
              rfl
            refine one_ (i := 12) (N := some 78) #[t,t,t,t,t,t,t,t,t,t,t,t,t,f,t,f] rfl rfl (one_of HT_.out (by kernel_rfl)) (by decide) (fun Kq_ hK_ => ?_)
            refine Kd.R_append_rows_step Lk (w0 := W1) W1.heap.size (by rfl) (.tmp 73) (.tmp 77) 23 35 (.agg #[.int .u64 0, .bool false]) 16 rfl Try.underlying23 infoLk rfl Nat.two_pos (by omega) v73 ([] ++ L) [(x, true)] (some ⟨kx, 0, none⟩) 1 1 (fun k => k ≠ kx) (fun _ => False) rfl rfl HO.out (C_oneLk HXB.out) (fun _ _ hh => hh) (fun _ hk => hk.elim) (fun k hk => by have h1 := blk_lt HXB.out; omega) HV.out HV.out.size (by simp; omega) ?_
            intro v78 w7 ho hb hg hat
            replace HXB := Aside0.mk (blk_grown HXB.out hg (fun he => HO.out.1 _ he.symm rfl))
            replace HGB := Aside0.mk (blk_grown HGB.out hg (fun he => own_ne HO.out HGB.out he))
            obtain ⟨A9, c9, rfl⟩ := Kd.R_slice ho
            obtain ⟨n9, hn9⟩ : ∃ n9, n9 = ([] ++ L ++ [(x, true)]).length := ⟨_, rfl⟩
            rw [← hn9] at ho ⊢
            obtain rfl : n9 = L.length + 1 := by rw [hn9]; simp
            rw [List.nil_append] at ho
            clear hn9
            clear HO
            have HO := Aside0.mk ho
            replace HV := Aside0.mk hb
            clear ho hb hg hat
            refine hK_.out _ _ ⟨pw_cell_below HV.out HX0.out, pw_cell_below HV.out HX1.out, pw_cell_below HV.out HX2.out⟩ (fun hHeld => ?_)
            clear hK_ Kq_
            refine norm_ (a' := ?_) ?_ ?_
            rotate_left
            · show Act.put _ (some 78) _ = _
              simp only [Act.put, List.setIfInBounds_toArray, List.set_cons_zero, List.set_cons_succ]
              rfl
            refine pure_ (i := 13) (N := some 79) (v := ?_) (a' := ?_) #[t,t,t,t,t,t,t,t,t,t,t,t,t,t,t,f] rfl rfl (any_of HT_.out (by kernel_rfl)) (fun _ _ _ h => h) (Or.inl ⟨by rfl, ?_⟩) ?_ ?_
            rotate_left; · intro w'; go_simp; with_reducible rfl
            rotate_left; · simp only [Act.put, List.setIfInBounds_toArray, List.set_cons_zero, List.set_cons_succ]; rfl
            have h_ := hc_ (v70, v73, A9, c9, kx, kg) _ ⟨R_not_found HO.out HGB.out, HGB.out, HV.out, HGK.out⟩
            simp only [putAll, Act.put, List.setIfInBounds_toArray, List.set_cons_zero, List.set_cons_succ] at h_
            exact h_
        · refine newcells_ (.cells #[.int .u64 x, .bool true] 35) (fun k => .slice (some ⟨k, 0, none⟩) 1 1) (by rfl) rfl ?hr ?_
          (case hr => first | (go_simp; done) | (go_simp; rfl))
          intro kx W' hk_ hnew hb
          replace HO := Aside0.mk (show Kd.R Lk 35 W' W1.heap.size (fun k => k ≠ kx) v70 [] from Kd.R_mono (Kd.R_below (Kd.R_bound HO.out) hb) (fun k hk => by have h1 := hk.2.2.1; omega))
          have HXB := Aside0.mk hnew
          replace HV := Aside0.mk (HV.out.trans (hb.mono HV.out.size))
          clear hk_ hnew hb
          refine hK_.out _ _ ⟨pw_cell_below HV.out HX0.out, pw_cell_below HV.out HX1.out, pw_cell_below HV.out HX2.out⟩ (fun hHeld => ?_)
          clear hK_ Kq_
          refine norm_ (a' := ?_) ?_ ?_
          rotate_left
          · show Act.put _ (some 77) _ = _
            simp only [Act.put, List.setIfInBounds_toArray, List.set_cons_zero, List.set_cons_succ]
            rfl
          refine two_ (i := 7) (j := 14) (Ni := some 73) (Nj := some 10) #[t,t,t,t,t,t,t,t,t,t,t,t,f,f,f,f] #[t,t,t,t,t,t,t,f,t,t,t,t,f,f,t,f] rfl rfl rfl rfl (two_of HT_.out (by kernel_rfl)) (by decide) (by decide) (fun Kq_ hK_ => ?_) (fun Kq_ hK_ => ?_)
          · refine Kd.R_append_rows_step Lk (w0 := W1) W1.heap.size (by rfl) (.tmp 70) (.tmp 72) 23 35 (.agg #[.int .u64 0, .bool false]) 16 rfl Try.underlying23 infoLk rfl Nat.two_pos (by omega) v70 [] L A4 L.length c4 (fun k => k ≠ kx) (fun _ => False) rfl rfl HO.out (Kd.C_below HR4.out HV.out) (fun _ _ hh => hh) (fun _ hk => hk.elim) (fun k hk => by have h1 := blk_lt HXB.out; omega) HV.out HV.out.size (by simp; omega) ?_
            intro v73 w7 ho hb hg hat
            replace HXB := Aside0.mk (blk_grown HXB.out hg (fun he => HO.out.1 _ he.symm rfl))
            clear HO
            have HO := Aside0.mk ho
            replace HV := Aside0.mk hb
            clear ho hb hg hat
            refine hK_.out _ _ ⟨pw_cell_below HV.out HX0.out, pw_cell_below HV.out HX1.out, pw_cell_below HV.out HX2.out⟩ (fun hHeld => ?_)
            clear hK_ Kq_
            refine norm_ (a' := ?_) ?_ ?_
            rotate_left
            · show Act.put _ (some 73) _ = _
              simp only [Act.put, List.setIfInBounds_toArray, List.set_cons_zero, List.set_cons_succ]
              rfl
            refine two_ (i := 12) (j := 14) (Ni := some 78) (Nj := some 10) #[t,t,t,t,t,t,t,t,t,t,t,t,t,f,f,f] #[t,t,t,t,t,t,t,t,t,t,t,t,f,f,t,f] rfl rfl rfl rfl (two_of HT_.out (by kernel_rfl)) (by decide) (by decide) (fun Kq_ hK_ => ?_) (fun Kq_ hK_ => ?_)
            · refine Kd.R_append_rows_step Lk (w0 := W1) W1.heap.size (by rfl) (.tmp 73) (.tmp 77) 23 35 (.agg #[.int .u64 0, .bool false]) 16 rfl Try.underlying23 infoLk rfl Nat.two_pos (by omega) v73 ([] ++ L) [(x, true)] (some ⟨kx, 0, none⟩) 1 1 (fun k => k ≠ kx) (fun _ => False) rfl rfl HO.out (C_oneLk HXB.out) (fun _ _ hh => hh) (fun _ hk => hk.elim) (fun k hk => by have h1 := blk_lt HXB.out; omega) HV.out HV.out.size (by simp; omega) ?_
              intro v78 w7 ho hb hg hat
              replace HXB := Aside0.mk (blk_grown HXB.out hg (fun he => HO.out.1 _ he.symm rfl))
              obtain ⟨A9, c9, rfl⟩ := Kd.R_slice ho
              obtain ⟨n9, hn9⟩ : ∃ n9, n9 = ([] ++ L ++ [(x, true)]).length := ⟨_, rfl⟩
              rw [← hn9] at ho ⊢
              obtain rfl : n9 = L.length + 1 := by rw [hn9]; simp
              rw [List.nil_append] at ho
              clear hn9
              clear HO
              have HO := Aside0.mk ho
              replace HV := Aside0.mk hb
              clear ho hb hg hat
              refine hK_.out _ _ ⟨pw_cell_below HV.out HX0.out, pw_cell_below HV.out HX1.out, pw_cell_below HV.out HX2.out⟩ (fun hHeld => ?_)
              clear hK_ Kq_
              refine norm_ (a' := ?_) ?_ ?_
              rotate_left
              · show Act.put _ (some 78) _ = _
                simp only [Act.put, List.setIfInBounds_toArray, List.set_cons_zero, List.set_cons_succ]
                rfl
              refine pure_ (i := 13) (N := some 79) (v := ?_) (a' := ?_) #[t,t,t,t,t,t,t,t,t,t,t,t,t,t,f,f] rfl rfl (any_of HT_.out (by kernel_rfl)) (fun _ _ _ h => h) (Or.inl ⟨by rfl, ?_⟩) ?_ ?_
              rotate_left; · intro w'; go_simp; with_reducible rfl
              rotate_left; · simp only [Act.put, List.setIfInBounds_toArray, List.set_cons_zero, List.set_cons_succ]; rfl
              refine one_ (i := 14) (N := some 10) #[t,t,t,t,t,t,t,t,t,t,t,t,t,t,t,f] rfl rfl (one_of HT_.out (by kernel_rfl)) (by decide) (fun Kq_ hK_ => ?_)
              refine newcells_ (.cells #[.int .u64 0, .bool false, .slice none 0 0] 25) (fun k => .pointer (some ⟨k, 0, none⟩)) (by rfl) rfl ?hr ?_
              (case hr => first | (go_simp; done) | (go_simp; rfl))
              intro kg W' hk_ hnew hb
              replace HO := Aside0.mk (Kd.R_below HO.out hb)
              replace HXB := Aside0.mk ((hb.block _ (blk_lt HXB.out)).trans HXB.out)
              have HGK := Aside0.mk (show W1.heap.size ≤ kg from by have h1 := HV.out.size; omega)
              have HGB := Aside0.mk hnew
              replace HV := Aside0.mk (HV.out.trans (hb.mono HV.out.size))
              clear hk_ hnew hb
              refine hK_.out _ _ ⟨pw_cell_below HV.out HX0.out, pw_cell_below HV.out HX1.out, pw_cell_below HV.out HX2.out⟩ (fun hHeld => ?_)
              clear hK_ Kq_
              refine norm_ (a' := ?_) ?_ ?_
              rotate_left
              · show Act.put _ (some 10) _ = _
                simp only [Act.put, List.setIfInBounds_toArray, List.set_cons_zero, List.set_cons_succ]
                rfl
              have h_ := hc_ (v70, v73, A9, c9, kx, kg) _ ⟨R_not_found HO.out HGB.out, HGB.out, HV.out, HGK.out⟩
              simp only [putAll, Act.put, List.setIfInBounds_toArray, List.set_cons_zero, List.set_cons_succ] at h_
              exact h_
            · refine newcells_ (.cells #[.int .u64 0, .bool false, .slice none 0 0] 25) (fun k => .pointer (some ⟨k, 0, none⟩)) (by rfl) rfl ?hr ?_
              (case hr => first | (go_simp; done) | (go_simp; rfl))
              intro kg W' hk_ hnew hb
              replace HO := Aside0.mk (Kd.R_below HO.out hb)
              replace HXB := Aside0.mk ((hb.block _ (blk_lt HXB.out)).trans HXB.out)
              have HGK := Aside0.mk (show W1.heap.size ≤ kg from by have h1 := HV.out.size; omega)
              have HGB := Aside0.mk hnew
              replace HV := Aside0.mk (HV.out.trans (hb.mono HV.out.size))
              clear hk_ hnew hb
              refine hK_.out _ _ ⟨pw_cell_below HV.out HX0.out, pw_cell_below HV.out HX1.out, pw_cell_below HV.out HX2.out⟩ (fun hHeld => ?_)
              clear hK_ Kq_
              refine norm_ (a' := ?_) ?_ ?_
              rotate_left
              · show Act.put _ (some 10) _ = _
                simp only [Act.put, List.setIfInBounds_toArray, List.set_cons_zero, List.set_cons_succ]
                rfl
              refine one_ (i := 12) (N := some 78) #[t,t,t,t,t,t,t,t,t,t,t,t,t,f,t,f] rfl rfl (one_of HT_.out (by kernel_rfl)) (by decide) (fun Kq_ hK_ => ?_)
              refine Kd.R_append_rows_step Lk (w0 := W1) W1.heap.size (by rfl) (.tmp 73) (.tmp 77) 23 35 (.agg #[.int .u64 0, .bool false]) 16 rfl Try.underlying23 infoLk rfl Nat.two_pos (by omega) v73 ([] ++ L) [(x, true)] (some ⟨kx, 0, none⟩) 1 1 (fun k => k ≠ kx) (fun _ => False) rfl rfl HO.out (C_oneLk HXB.out) (fun _ _ hh => hh) (fun _ hk => hk.elim) (fun k hk => by have h1 := blk_lt HXB.out; omega) HV.out HV.out.size (by simp; omega) ?_
              intro v78 w7 ho hb hg hat
              replace HXB := Aside0.mk (blk_grown HXB.out hg (fun he => HO.out.1 _ he.symm rfl))
              replace HGB := Aside0.mk (blk_grown HGB.out hg (fun he => own_ne HO.out HGB.out he))
              obtain ⟨A9, c9, rfl⟩ := Kd.R_slice ho
              obtain ⟨n9, hn9⟩ : ∃ n9, n9 = ([] ++ L ++ [(x, true)]).length := ⟨_, rfl⟩
              rw [← hn9] at ho ⊢
              obtain rfl : n9 = L.length + 1 := by rw [hn9]; simp
              rw [List.nil_append] at ho
              clear hn9
              clear HO
              have HO := Aside0.mk ho
              replace HV := Aside0.mk hb
              clear ho hb hg hat
              refine hK_.out _ _ ⟨pw_cell_below HV.out HX0.out, pw_cell_below HV.out HX1.out, pw_cell_below HV.out HX2.out⟩ (fun hHeld => ?_)
              clear hK_ Kq_
              refine norm_ (a' := ?_) ?_ ?_
              rotate_left
              · show Act.put _ (some 78) _ = _
                simp only [Act.put, List.setIfInBounds_toArray, List.set_cons_zero, List.set_cons_succ]
                rfl
              refine pure_ (i := 13) (N := some 79) (v := ?_) (a' := ?_) #[t,t,t,t,t,t,t,t,t,t,t,t,t,t,t,f] rfl rfl (any_of HT_.out (by kernel_rfl)) (fun _ _ _ h => h) (Or.inl ⟨by rfl, ?_⟩) ?_ ?_
              rotate_left; · intro w'; go_simp; with_reducible rfl
              rotate_left; · simp only [Act.put, List.setIfInBounds_toArray, List.set_cons_zero, List.set_cons_succ]; rfl
              have h_ := hc_ (v70, v73, A9, c9, kx, kg) _ ⟨R_not_found HO.out HGB.out, HGB.out, HV.out, HGK.out⟩
              simp only [putAll, Act.put, List.setIfInBounds_toArray, List.set_cons_zero, List.set_cons_succ] at h_
              exact h_
          · refine newcells_ (.cells #[.int .u64 0, .bool false, .slice none 0 0] 25) (fun k => .pointer (some ⟨k, 0, none⟩)) (by rfl) rfl ?hr ?_
            (case hr => first | (go_simp; done) | (go_simp; rfl))
            intro kg W' hk_ hnew hb
            replace HO := Aside0.mk (Kd.R_below HO.out hb)
            replace HXB := Aside0.mk ((hb.block _ (blk_lt HXB.out)).trans HXB.out)
            have HGK := Aside0.mk (show W1.heap.size ≤ kg from by have h1 := HV.out.size; omega)
            have HGB := Aside0.mk hnew
            replace HV := Aside0.mk (HV.out.trans (hb.mono HV.out.size))
            clear hk_ hnew hb
            refine hK_.out _ _ ⟨pw_cell_below HV.out HX0.out, pw_cell_below HV.out HX1.out, pw_cell_below HV.out HX2.out⟩ (fun hHeld => ?_)
            clear hK_ Kq_
            refine norm_ (a' := ?_) ?_ ?_
            rotate_left
            · show Act.put _ (some 10) _ = _
              simp only [Act.put, List.setIfInBounds_toArray, List.set_cons_zero, List.set_cons_succ]
              rfl
            refine one_ (i := 7) (N := some 73) #[t,t,t,t,t,t,t,t,t,t,t,t,f,f,t,f] rfl rfl (one_of HT_.out (by kernel_rfl)) (by decide) (fun Kq_ hK_ => ?_)
            refine Kd.R_append_rows_step Lk (w0 := W1) W1.heap.size (by rfl) (.tmp 70) (.tmp 72) 23 35 (.agg #[.int .u64 0, .bool false]) 16 rfl Try.underlying23 infoLk rfl Nat.two_pos (by omega) v70 [] L A4 L.length c4 (fun k => k ≠ kx) (fun _ => False) rfl rfl HO.out (Kd.C_below HR4.out HV.out) (fun _ _ hh => hh) (fun _ hk => hk.elim) (fun k hk => by have h1 := blk_lt HXB.out; omega) HV.out HV.out.size (by simp; omega) ?_
            intro v73 w7 ho hb hg hat
            replace HXB := Aside0.mk (blk_grown HXB.out hg (fun he => HO.out.1 _ he.symm rfl))
            replace HGB := Aside0.mk (blk_grown HGB.out hg (fun he => own_ne HO.out HGB.out he))
            clear HO
            have HO := Aside0.mk ho
            replace HV := Aside0.mk hb
            clear ho hb hg hat
            refine hK_.out _ _ ⟨pw_cell_below HV.out HX0.out, pw_cell_below HV.out HX1.out, pw_cell_below HV.out HX2.out⟩ (fun hHeld => ?_)
            clear hK_ Kq_
            refine norm_ (a' := ?_) ?_ ?_
            rotate_left
            · show Act.put _ (some 73) _ = _
              simp only [Act.put, List.setIfInBounds_toArray, List.set_cons_zero, List.set_cons_succ]
              rfl
            refine one_ (i := 12) (N := some 78) #[t,t,t,t,t,t,t,t,t,t,t,t,t,f,t,f] rfl rfl (one_of HT_.out (by kernel_rfl)) (by decide) (fun Kq_ hK_ => ?_)
            refine Kd.R_append_rows_step Lk (w0 := W1) W1.heap.size (by rfl) (.tmp 73) (.tmp 77) 23 35 (.agg #[.int .u64 0, .bool false]) 16 rfl Try.underlying23 infoLk rfl Nat.two_pos (by omega) v73 ([] ++ L) [(x, true)] (some ⟨kx, 0, none⟩) 1 1 (fun k => k ≠ kx) (fun _ => False) rfl rfl HO.out (C_oneLk HXB.out) (fun _ _ hh => hh) (fun _ hk => hk.elim) (fun k hk => by have h1 := blk_lt HXB.out; omega) HV.out HV.out.size (by simp; omega) ?_
            intro v78 w7 ho hb hg hat
            replace HXB := Aside0.mk (blk_grown HXB.out hg (fun he => HO.out.1 _ he.symm rfl))
            replace HGB := Aside0.mk (blk_grown HGB.out hg (fun he => own_ne HO.out HGB.out he))
            obtain ⟨A9, c9, rfl⟩ := Kd.R_slice ho
            obtain ⟨n9, hn9⟩ : ∃ n9, n9 = ([] ++ L ++ [(x, true)]).length := ⟨_, rfl⟩
            rw [← hn9] at ho ⊢
            obtain rfl : n9 = L.length + 1 := by rw [hn9]; simp
            rw [List.nil_append] at ho
            clear hn9
            clear HO
            have HO := Aside0.mk ho
            replace HV := Aside0.mk hb
            clear ho hb hg hat
            refine hK_.out _ _ ⟨pw_cell_below HV.out HX0.out, pw_cell_below HV.out HX1.out, pw_cell_below HV.out HX2.out⟩ (fun hHeld => ?_)
            clear hK_ Kq_
            refine norm_ (a' := ?_) ?_ ?_
            rotate_left
            · show Act.put _ (some 78) _ = _
              simp only [Act.put, List.setIfInBounds_toArray, List.set_cons_zero, List.set_cons_succ]
              rfl
            refine pure_ (i := 13) (N := some 79) (v := ?_) (a' := ?_) #[t,t,t,t,t,t,t,t,t,t,t,t,t,t,t,f] rfl rfl (any_of HT_.out (by kernel_rfl)) (fun _ _ _ h => h) (Or.inl ⟨by rfl, ?_⟩) ?_ ?_
            rotate_left; · intro w'; go_simp; with_reducible rfl
            rotate_left; · simp only [Act.put, List.setIfInBounds_toArray, List.set_cons_zero, List.set_cons_succ]; rfl
            have h_ := hc_ (v70, v73, A9, c9, kx, kg) _ ⟨R_not_found HO.out HGB.out, HGB.out, HV.out, HGK.out⟩
            simp only [putAll, Act.put, List.setIfInBounds_toArray, List.set_cons_zero, List.set_cons_succ] at h_
            exact h_
        · refine newcells_ (.cells #[.int .u64 0, .bool false, .slice none 0 0] 25) (fun k => .pointer (some ⟨k, 0, none⟩)) (by rfl) rfl ?hr ?_
          (case hr => first | (go_simp; done) | (go_simp; rfl))
          intro kg W' hk_ hnew hb
          replace HO := Aside0.mk (Kd.R_below HO.out hb)
          have HGK := Aside0.mk (show W1.heap.size ≤ kg from by have h1 := HV.out.size; omega)
          have HGB := Aside0.mk hnew
          replace HV := Aside0.mk (HV.out.trans (hb.mono HV.out.size))
          clear hk_ hnew hb
          refine hK_.out _ _ ⟨pw_cell_below HV.out HX0.out, pw_cell_below HV.out HX1.out, pw_cell_below HV.out HX2.out⟩ (fun hHeld => ?_)
          clear hK_ Kq_
          refine norm_ (a' := ?_) ?_ ?_
          rotate_left
          · show Act.put _ (some 10) _ = _
            simp only [Act.put, List.setIfInBounds_toArray, List.set_cons_zero, List.set_cons_succ]
            rfl
          refine two_ (i := 7) (j := 11) (Ni := some 73) (Nj := some 77) #[t,t,t,t,t,t,t,t,t,t,t,f,f,f,t,f] #[t,t,t,t,t,t,t,f,t,t,t,t,f,f,t,f] rfl rfl rfl rfl (two_of HT_.out (by kernel_rfl)) (by decide) (by decide) (fun Kq_ hK_ => ?_) (fun Kq_ hK_ => ?_)
          · refine Kd.R_append_rows_step Lk (w0 := W1) W1.heap.size (by rfl) (.tmp 70) (.tmp 72) 23 35 (.agg #[.int .u64 0, .bool false]) 16 rfl Try.underlying23 infoLk rfl Nat.two_pos (by omega) v70 [] L A4 L.length c4 (fun _ => True) (fun _ => False) rfl rfl HO.out (Kd.C_below HR4.out HV.out) (fun _ _ hh => hh) (fun _ hk => hk.elim) (fun _ _ => trivial) HV.out HV.out.size (by simp; omega) ?_
            intro v73 w7 ho hb hg hat
            replace HGB := Aside0.mk (blk_grown HGB.out hg (fun he => own_ne HO.out HGB.out he))
            clear HO
            have HO := Aside0.mk ho
            replace HV := Aside0.mk hb
            clear ho hb hg hat
            refine hK_.out _ _ ⟨pw_cell_below HV.out HX0.out, pw_cell_below HV.out HX1.out, pw_cell_below HV.out HX2.out⟩ (fun hHeld => ?_)
            clear hK_ Kq_
            refine norm_ (a' := ?_) ?_ ?_
            rotate_left
            · show Act.put _ (some 73) _ = _
              simp only [Act.put, List.setIfInBounds_toArray, List.set_cons_zero, List.set_cons_succ]
              rfl
            refine one_ (i := 11) (N := some 77) #[t,t,t,t,t,t,t,t,t,t,t,t,f,f,t,f] rfl rfl (one_of HT_.out (by kernel_rfl)) (by decide) (fun Kq_ hK_ => ?_)
            refine newcells_ (.cells #[.int .u64 x, .bool true] 35) (fun k => .slice (some ⟨k, 0, none⟩) 1 1) (by rfl) rfl ?hr ?_
            (case hr => first | (go_simp; done) | (go_simp; rfl))
            intro kx W' hk_ hnew hb
            replace HO := Aside0.mk (show Kd.R Lk 35 W' W1.heap.size (fun k => k ≠ kx) v73 ([] ++ L) from Kd.R_mono (Kd.R_below (Kd.R_bound HO.out) hb) (fun k hk => by have h1 := hk.2.2.1; omega))
            replace HGB := Aside0.mk ((hb.block _ (blk_lt HGB.out)).trans HGB.out)
            have HXB := Aside0.mk hnew
            replace HV := Aside0.mk (HV.out.trans (hb.mono HV.out.size))
            clear hk_ hnew hb
            refine hK_.out _ _ ⟨pw_cell_below HV.out HX0.out, pw_cell_below HV.out HX1.out, pw_cell_below HV.out HX2.out⟩ (fun hHeld => ?_)
            clear hK_ Kq_
            refine norm_ (a' := ?_) ?_ ?_
            rotate_left
            · show Act.put _ (some 77) _ = _
              simp only [Act.put, List.setIfInBounds_toArray, List.set_cons_zero, List.set_cons_succ]
              rfl
            refine one_ (i := 12) (N := some 78) #[t,t,t,t,t,t,t,t,t,t,t,t,t,f,t,f] rfl rfl (one_of HT_.out (by kernel_rfl)) (by decide) (fun Kq_ hK_ => ?_)
            refine Kd.R_append_rows_step Lk (w0 := W1) W1.heap.size (by rfl) (.tmp 73) (.tmp 77) 23 35 (.agg #[.int .u64 0, .bool false]) 16 rfl Try.underlying23 infoLk rfl Nat.two_pos (by omega) v73 ([] ++ L) [(x, true)] (some ⟨kx, 0, none⟩) 1 1 (fun k => k ≠ kx) (fun _ => False) rfl rfl HO.out (C_oneLk HXB.out) (fun _ _ hh => hh) (fun _ hk => hk.elim) (fun k hk => by have h1 := blk_lt HXB.out; omega) HV.out HV.out.size (by simp; omega) ?_
            intro v78 w7 ho hb hg hat
            replace HXB := Aside0.mk (blk_grown HXB.out hg (fun he => HO.out.1 _ he.symm rfl))
            replace HGB := Aside0.mk (blk_grown HGB.out hg (fun he => own_ne HO.out HGB.out he))
            obtain ⟨A9, c9, rfl⟩ := Kd.R_slice ho
            obtain ⟨n9, hn9⟩ : ∃ n9, n9 = ([] ++ L ++ [(x, true)]).length := ⟨_, rfl⟩
            rw [← hn9] at ho ⊢
            obtain rfl : n9 = L.length + 1 := by rw [hn9]; simp
            rw [List.nil_append] at ho
            clear hn9
            clear HO
            have HO := Aside0.mk ho
            replace HV := Aside0.mk hb
            clear ho hb hg hat
            refine hK_.out _ _ ⟨pw_cell_below HV.out HX0.out, pw_cell_below HV.out HX1.out, pw_cell_below HV.out HX2.out⟩ (fun hHeld => ?_)
            clear hK_ Kq_
            refine norm_ (a' := ?_) ?_ ?_
            rotate_left
            · show Act.put _ (some 78) _ = _
              simp only [Act.put, List.setIfInBounds_toArray, List.set_cons_zero, List.set_cons_succ]
              rfl
            refine pure_ (i := 13) (N := some 79) (v := ?_) (a' := ?_) #[t,t,t,t,t,t,t,t,t,t,t,t,t,t,t,f] rfl rfl (any_of HT_.out (by kernel_rfl)) (fun _ _ _ h => h) (Or.inl ⟨by rfl, ?_⟩) ?_ ?_
            rotate_left; · intro w'; go_simp; with_reducible rfl
            rotate_left; · simp only [Act.put, List.setIfInBounds_toArray, List.set_cons_zero, List.set_cons_succ]; rfl
            have h_ := hc_ (v70, v73, A9, c9, kx, kg) _ ⟨R_not_found HO.out HGB.out, HGB.out, HV.out, HGK.out⟩
            simp only [putAll, Act.put, List.setIfInBounds_toArray, List.set_cons_zero, List.set_cons_succ] at h_
            exact h_
          · refine newcells_ (.cells #[.int .u64 x, .bool true] 35) (fun k => .slice (some ⟨k, 0, none⟩) 1 1) (by rfl) rfl ?hr ?_
            (case hr => first | (go_simp; done) | (go_simp; rfl))
            intro kx W' hk_ hnew hb
            replace HO := Aside0.mk (show Kd.R Lk 35 W' W1.heap.size (fun k => k ≠ kx) v70 [] from Kd.R_mono (Kd.R_below (Kd.R_bound HO.out) hb) (fun k hk => by have h1 := hk.2.2.1; omega))
            replace HGB := Aside0.mk ((hb.block _ (blk_lt HGB.out)).trans HGB.out)
            have HXB := Aside0.mk hnew
            replace HV := Aside0.mk (HV.out.trans (hb.mono HV.out.size))
            clear hk_ hnew hb
            refine hK_.out _ _ ⟨pw_cell_below HV.out HX0.out, pw_cell_below HV.out HX1.out, pw_cell_below HV.out HX2.out⟩ (fun hHeld => ?_)
            clear hK_ Kq_
            refine norm_ (a' := ?_) ?_ ?_
            rotate_left
            · show Act.put _ (some 77) _ = _
              simp only [Act.put, List.setIfInBounds_toArray, List.set_cons_zero, List.set_cons_succ]
              rfl
            refine one_ (i := 7) (N := some 73) #[t,t,t,t,t,t,t,t,t,t,t,t,f,f,t,f] rfl rfl (one_of HT_.out (by kernel_rfl)) (by decide) (fun Kq_ hK_ => ?_)
            refine Kd.R_append_rows_step Lk (w0 := W1) W1.heap.size (by rfl) (.tmp 70) (.tmp 72) 23 35 (.agg #[.int .u64 0, .bool false]) 16 rfl Try.underlying23 infoLk rfl Nat.two_pos (by omega) v70 [] L A4 L.length c4 (fun k => k ≠ kx) (fun _ => False) rfl rfl HO.out (Kd.C_below HR4.out HV.out) (fun _ _ hh => hh) (fun _ hk => hk.elim) (fun k hk => by have h1 := blk_lt HXB.out; omega) HV.out HV.out.size (by simp; omega) ?_
            intro v73 w7 ho hb hg hat
            replace HXB := Aside0.mk (blk_grown HXB.out hg (fun he => HO.out.1 _ he.symm rfl))
            replace HGB := Aside0.mk (blk_grown HGB.out hg (fun he => own_ne HO.out HGB.out he))
            clear HO
            have HO := Aside0.mk ho
            replace HV := Aside0.mk hb
            clear ho hb hg hat
            refine hK_.out _ _ ⟨pw_cell_below HV.out HX0.out, pw_cell_below HV.out HX1.out, pw_cell_below HV.out HX2.out⟩ (fun hHeld => ?_)
            clear hK_ Kq_
            refine norm_ (a' := ?_) ?_ ?_
            rotate_left
            · show Act.put _ (some 73) _ = _
              simp only [Act.put, List.setIfInBounds_toArray, List.set_cons_zero, List.set_cons_succ]
              rfl
            refine one_ (i := 12) (N := some 78) #[t,t,t,t,t,t,t,t,t,t,t,t,t,f,t,f] rfl rfl (one_of HT_.out (by kernel_rfl)) (by decide) (fun Kq_ hK_ => ?_)
            refine Kd.R_append_rows_step Lk (w0 := W1) W1.heap.size (by rfl) (.tmp 73) (.tmp 77) 23 35 (.agg #[.int .u64 0, .bool false]) 16 rfl Try.underlying23 infoLk rfl Nat.two_pos (by omega) v73 ([] ++ L) [(x, true)] (some ⟨kx, 0, none⟩) 1 1 (fun k => k ≠ kx) (fun _ => False) rfl rfl HO.out (C_oneLk HXB.out) (fun _ _ hh => hh) (fun _ hk => hk.elim) (fun k hk => by have h1 := blk_lt HXB.out; omega) HV.out HV.out.size (by simp; omega) ?_
            intro v78 w7 ho hb hg hat
            replace HXB := Aside0.mk (blk_grown HXB.out hg (fun he => HO.out.1 _ he.symm rfl))
            replace HGB := Aside0.mk (blk_grown HGB.out hg (fun he => own_ne HO.out HGB.out he))
            obtain ⟨A9, c9, rfl⟩ := Kd.R_slice ho
            obtain ⟨n9, hn9⟩ : ∃ n9, n9 = ([] ++ L ++ [(x, true)]).length := ⟨_, rfl⟩
            rw [← hn9] at ho ⊢
            obtain rfl : n9 = L.length + 1 := by rw [hn9]; simp
            rw [List.nil_append] at ho
            clear hn9
            clear HO
            have HO := Aside0.mk ho
            replace HV := Aside0.mk hb
            clear ho hb hg hat
            refine hK_.out _ _ ⟨pw_cell_below HV.out HX0.out, pw_cell_below HV.out HX1.out, pw_cell_below HV.out HX2.out⟩ (fun hHeld => ?_)
            clear hK_ Kq_
            refine norm_ (a' := ?_) ?_ ?_
            rotate_left
            · show Act.put _ (some 78) _ = _
              simp only [Act.put, List.setIfInBounds_toArray, List.set_cons_zero, List.set_cons_succ]
              rfl
            refine pure_ (i := 13) (N := some 79) (v := ?_) (a' := ?_) #[t,t,t,t,t,t,t,t,t,t,t,t,t,t,t,f] rfl rfl (any_of HT_.out (by kernel_rfl)) (fun _ _ _ h => h) (Or.inl ⟨by rfl, ?_⟩) ?_ ?_
            rotate_left; · intro w'; go_simp; with_reducible rfl
            rotate_left; · simp only [Act.put, List.setIfInBounds_toArray, List.set_cons_zero, List.set_cons_succ]; rfl
            have h_ := hc_ (v70, v73, A9, c9, kx, kg) _ ⟨R_not_found HO.out HGB.out, HGB.out, HV.out, HGK.out⟩
            simp only [putAll, Act.put, List.setIfInBounds_toArray, List.set_cons_zero, List.set_cons_succ] at h_
            exact h_
      · refine newcells_ (.cells #[.int .u64 x, .bool true] 35) (fun k => .slice (some ⟨k, 0, none⟩) 1 1) (by rfl) rfl ?hr ?_
        (case hr => first | (go_simp; done) | (go_simp; rfl))
        intro kx W' hk_ hnew hb
        have HXB := Aside0.mk hnew
        replace HV := Aside0.mk (HV.out.trans (hb.mono HV.out.size))
        clear hk_ hnew hb
        refine hK_.out _ _ ⟨pw_cell_below HV.out HX0.out, pw_cell_below HV.out HX1.out, pw_cell_below HV.out HX2.out⟩ (fun hHeld => ?_)
        clear hK_ Kq_
        refine norm_ (a' := ?_) ?_ ?_
        rotate_left
        · show Act.put _ (some 77) _ = _
          simp only [Act.put, List.setIfInBounds_toArray, List.set_cons_zero, List.set_cons_succ]
          rfl
        refine two_ (i := 4) (j := 14) (Ni := some 70) (Nj := some 10) #[t,t,t,t,t,t,t,f,t,t,t,t,f,f,f,f] #[t,t,t,t,f,t,t,f,t,t,t,t,f,f,t,f] rfl rfl rfl rfl (two_of HT_.out (by kernel_rfl)) (by decide) (by decide) (fun Kq_ hK_ => ?_) (fun Kq_ hK_ => ?_)
        · refine Kd.R_lit_step Lk (w0 := W1) W1.heap.size 35 (by rfl) (N := 70) rfl (xs := []) (inner := []) (ok := fun k => k ≠ kx) (okp := fun k => k ≠ kx) ?hr (by constructor <;> simp) (fun _ hk => hk) (by have h1 := blk_lt HXB.out; omega) HV.out HV.out.size (by simp) ?_
          (case hr => first | (go_simp; done) | (go_simp; rfl))
          intro v70 w4 ho hb hg hat
          replace HXB := Aside0.mk (blk_grown HXB.out hg (by simp))
          have HO := Aside0.mk ho
          replace HV := Aside0.mk hb
          clear ho hb hg hat
          refine hK_.out _ _ ⟨pw_cell_below HV.out HX0.out, pw_cell_below HV.out HX1.out, pw_cell_below HV.out HX2.out⟩ (fun hHeld => ?_)
          clear hK_ Kq_
          refine norm_ (a' := ?_) ?_ ?_
          rotate_left
          · show Act.put _ (some 70) _ = _
            simp only [Act.put, List.setIfInBounds_toArray, List.set_cons_zero, List.set_cons_succ]
            rfl
          refine two_ (i := 7) (j := 14) (Ni := some 73) (Nj := some 10) #[t,t,t,t,t,t,t,t,t,t,t,t,f,f,f,f] #[t,t,t,t,t,t,t,f,t,t,t,t,f,f,t,f] rfl rfl rfl rfl (two_of HT_.out (by kernel_rfl)) (by decide) (by decide) (fun Kq_ hK_ => ?_) (fun Kq_ hK_ => ?_)
          · refine Kd.R_append_rows_step Lk (w0 := W1) W1.heap.size (by rfl) (.tmp 70) (.tmp 72) 23 35 (.agg #[.int .u64 0, .bool false]) 16 rfl Try.underlying23 infoLk rfl Nat.two_pos (by omega) v70 [] L A4 L.length c4 (fun k => k ≠ kx) (fun _ => False) rfl rfl HO.out (Kd.C_below HR4.out HV.out) (fun _ _ hh => hh) (fun _ hk => hk.elim) (fun k hk => by have h1 := blk_lt HXB.out; omega) HV.out HV.out.size (by simp; omega) ?_
            intro v73 w7 ho hb hg hat
            replace HXB := Aside0.mk (blk_grown HXB.out hg (fun he => HO.out.1 _ he.symm rfl))
            clear HO
            have HO := Aside0.mk ho
            replace HV := Aside0.mk hb
            clear ho hb hg hat
            refine hK_.out _ _ ⟨pw_cell_below HV.out HX0.out, pw_cell_below HV.out HX1.out, pw_cell_below HV.out HX2.out⟩ (fun hHeld => ?_)
            clear hK_ Kq_
            refine norm_ (a' := ?_) ?_ ?_
            rotate_left
            · show Act.put _ (some 73) _ = _
              simp only [Act.put, List.setIfInBounds_toArray, List.set_cons_zero, List.set_cons_succ]
              rfl
            refine two_ (i := 12) (j := 14) (Ni := some 78) (Nj := some 10) #[t,t,t,t,t,t,t,t,t,t,t,t,t,f,f,f] #[t,t,t,t,t,t,t,t,t,t,t,t,f,f,t,f] rfl rfl rfl rfl (two_of HT_.out (by kernel_rfl)) (by decide) (by decide) (fun Kq_ hK_ => ?_) (fun Kq_ hK_ => ?_)
            · refine Kd.R_append_rows_step Lk (w0 := W1) W1.heap.size (by rfl) (.tmp 73) (.tmp 77) 23 35 (.agg #[.int .u64 0, .bool false]) 16 rfl Try.underlying23 infoLk rfl Nat.two_pos (by omega) v73 ([] ++ L) [(x, true)] (some ⟨kx, 0, none⟩) 1 1 (fun k => k ≠ kx) (fun _ => False) rfl rfl HO.out (C_oneLk HXB.out) (fun _ _ hh => hh) (fun _ hk => hk.elim) (fun k hk => by have h1 := blk_lt HXB.out; omega) HV.out HV.out.size (by simp; omega) ?_
              intro v78 w7 ho hb hg hat
              replace HXB := Aside0.mk (blk_grown HXB.out hg (fun he => HO.out.1 _ he.symm rfl))
              obtain ⟨A9, c9, rfl⟩ := Kd.R_slice ho
              obtain ⟨n9, hn9⟩ : ∃ n9, n9 = ([] ++ L ++ [(x, true)]).length := ⟨_, rfl⟩
              rw [← hn9] at ho ⊢
              obtain rfl : n9 = L.length + 1 := by rw [hn9]; simp
              rw [List.nil_append] at ho
              clear hn9
              clear HO
              have HO := Aside0.mk ho
              replace HV := Aside0.mk hb
              clear ho hb hg hat
              refine hK_.out _ _ ⟨pw_cell_below HV.out HX0.out, pw_cell_below HV.out HX1.out, pw_cell_below HV.out HX2.out⟩ (fun hHeld => ?_)
              clear hK_ Kq_
              refine norm_ (a' := ?_) ?_ ?_
              rotate_left
              · show Act.put _ (some 78) _ = _
                simp only [Act.put, List.setIfInBounds_toArray, List.set_cons_zero, List.set_cons_succ]
                rfl
              refine pure_ (i := 13) (N := some 79) (v := ?_) (a' := ?_) #[t,t,t,t,t,t,t,t,t,t,t,t,t,t,f,f] rfl rfl (any_of HT_.out (by kernel_rfl)) (fun _ _ _ h => h) (Or.inl ⟨by rfl, ?_⟩) ?_ ?_
              rotate_left; · intro w'; go_simp; with_reducible rfl
              rotate_left; · simp only [Act.put, List.setIfInBounds_toArray, List.set_cons_zero, List.set_cons_succ]; rfl
              refine one_ (i := 14) (N := some 10) #[t,t,t,t,t,t,t,t,t,t,t,t,t,t,t,f] rfl rfl (one_of HT_.out (by kernel_rfl)) (by decide) (fun Kq_ hK_ => ?_)
              refine newcells_ (.cells #[.int .u64 0, .bool false, .slice none 0 0] 25) (fun k => .pointer (some ⟨k, 0, none⟩)) (by rfl) rfl ?hr ?_
              (case hr => first | (go_simp; done) | (go_simp; rfl))
              intro kg W' hk_ hnew hb
              replace HO := Aside0.mk (Kd.R_below HO.out hb)
              replace HXB := Aside0.mk ((hb.block _ (blk_lt HXB.out)).trans HXB.out)
              have HGK := Aside0.mk (show W1.heap.size ≤ kg from by have h1 := HV.out.size; omega)
              have HGB := Aside0.mk hnew
              replace HV := Aside0.mk (HV.out.trans (hb.mono HV.out.size))
              clear hk_ hnew hb
              refine hK_.out _ _ ⟨pw_cell_below HV.out HX0.out, pw_cell_below HV.out HX1.out, pw_cell_below HV.out HX2.out⟩ (fun hHeld => ?_)
              clear hK_ Kq_
              refine norm_ (a' := ?_) ?_ ?_
              rotate_left
              · show Act.put _ (some 10) _ = _
                simp only [Act.put, List.setIfInBounds_toArray, List.set_cons_zero, List.set_cons_succ]
                rfl
              have h_ := hc_ (v70, v73, A9, c9, kx, kg) _ ⟨R_not_found HO.out HGB.out, HGB.out, HV.out, HGK.out⟩
              simp only [putAll, Act.put, List.setIfInBounds_toArray, List.set_cons_zero, List.set_cons_succ] at h_
              exact h_
            · refine newcells_ (.cells #[.int .u64 0, .bool false, .slice none 0 0] 25) (fun k => .pointer (some ⟨k, 0, none⟩)) (by rfl) rfl ?hr ?_
              (case hr => first | (go_simp; done) | (go_simp; rfl))
              intro kg W' hk_ hnew hb
              replace HO := Aside0.mk (Kd.R_below HO.out hb)
              replace HXB := Aside0.mk ((hb.block _ (blk_lt HXB.out)).trans HXB.out)
              have HGK := Aside0.mk (show W1.heap.size ≤ kg from by have h1 := HV.out.size; omega)
              have HGB := Aside0.mk hnew
              replace HV := Aside0.mk (HV.out.trans (hb.mono HV.out.size))
              clear hk_ hnew hb
              refine hK_.out _ _ ⟨pw_cell_below HV.out HX0.out, pw_cell_below HV.out HX1.out, pw_cell_below HV.out HX2.out⟩ (fun hHeld => ?_)
              clear hK_ Kq_
              refine norm_ (a' := ?_) ?_ ?_
              rotate_left
              · show Act.put _ (some 10) _ = _
                simp only [Act.put, List.setIfInBounds_toArray, List.set_cons_zero, List.set_cons_succ]
                rfl
              refine one_ (i := 12) (N := some 78) #[t,t,t,t,t,t,t,t,t,t,t,t,t,f,t,f] rfl rfl (one_of HT_.out (by kernel_rfl)) (by decide) (fun Kq_ hK_ => ?_)
              refine Kd.R_append_rows_step Lk (w0 := W1) W1.heap.size (by rfl) (.tmp 73) (.tmp 77) 23 35 (.agg #[.int .u64 0, .bool false]) 16 rfl Try.underlying23 infoLk rfl Nat.two_pos (by omega) v73 ([] ++ L) [(x, true)] (some ⟨kx, 0, none⟩) 1 1 (fun k => k ≠ kx) (fun _ => False) rfl rfl HO.out (C_oneLk HXB.out) (fun _ _ hh => hh) (fun _ hk => hk.elim) (fun k hk => by have h1 := blk_lt HXB.out; omega) HV.out HV.out.size (by simp; omega) ?_
              intro v78 w7 ho hb hg hat
              replace HXB := Aside0.mk (blk_grown HXB.out hg (fun he => HO.out.1 _ he.symm rfl))
              replace HGB := Aside0.mk (blk_grown HGB.out hg (fun he => own_ne HO.out HGB.out he))
              obtain ⟨A9, c9, rfl⟩ := Kd.R_slice ho
              obtain ⟨n9, hn9⟩ : ∃ n9, n9 = ([] ++ L ++ [(x, true)]).length := ⟨_, rfl⟩
              rw [← hn9] at ho ⊢
              obtain rfl : n9 = L.length + 1 := by rw [hn9]; simp
              rw [List.nil_append] at ho
              clear hn9
              clear HO
              have HO := Aside0.mk ho
              replace HV := Aside0.mk hb
              clear ho hb hg hat
              refine hK_.out _ _ ⟨pw_cell_below HV.out HX0.out, pw_cell_below HV.out HX1.out, pw_cell_below HV.out HX2.out⟩ (fun hHeld => ?_)
              clear hK_ Kq_
              refine norm_ (a' := ?_) ?_ ?_
              rotate_left
              · show Act.put _ (some 78) _ = _
                simp only [Act.put, List.setIfInBounds_toArray, List.set_cons_zero, List.set_cons_succ]
                rfl
              refine pure_ (i := 13) (N := some 79) (v := ?_) (a' := ?_) #[t,t,t,t,t,t,t,t,t,t,t,t,t,t,t,f] rfl rfl (any_of HT_.out (by kernel_rfl)) (fun _ _ _ h => h) (Or.inl ⟨by rfl, ?_⟩) ?_ ?_
              rotate_left; · intro w'; go_simp; with_reducible rfl
              rotate_left; · simp only [Act.put, List.setIfInBounds_toArray, List.set_cons_zero, List.set_cons_succ]; rfl
              have h_ := hc_ (v70, v73, A9, c9, kx, kg) _ ⟨R_not_found HO.out HGB.out, HGB.out, HV.out, HGK.out⟩
              simp only [putAll, Act.put, List.setIfInBounds_toArray, List.set_cons_zero, List.set_cons_succ] at h_
              exact h_
          · refine newcells_ (.cells #[.int .u64 0, .bool false, .slice none 0 0] 25) (fun k => .pointer (some ⟨k, 0, none⟩)) (by rfl) rfl ?hr ?_
            (case hr => first | (go_simp; done) | (go_simp; rfl))
            intro kg W' hk_ hnew hb
            replace HO := Aside0.mk (Kd.R_below HO.out hb)
            replace HXB := Aside0.mk ((hb.block _ (blk_lt HXB.out)).trans HXB.out)
            have HGK := Aside0.mk (show W1.heap.size ≤ kg from by have h1 := HV.out.size; omega)
            have HGB := Aside0.mk hnew
            replace HV := Aside0.mk (HV.out.trans (hb.mono HV.out.size))
            clear hk_ hnew hb
            refine hK_.out _ _ ⟨pw_cell_below HV.out HX0.out, pw_cell_below HV.out HX1.out, pw_cell_below HV.out HX2.out⟩ (fun hHeld => ?_)
            clear hK_ Kq_
            refine norm_ (a' := ?_) ?_ ?_
            rotate_left
            · show Act.put _ (some 10) _ = _
              simp only [Act.put, List.setIfInBounds_toArray, List.set_cons_zero, List.set_cons_succ]
              rfl
            refine one_ (i := 7) (N := some 73) #[t,t,t,t,t,t,t,t,t,t,t,t,f,f,t,f] rfl rfl (one_of HT_.out (by kernel_rfl)) (by decide) (fun Kq_ hK_ => ?_)
            refine Kd.R_append_rows_step Lk (w0 := W1) W1.heap.size (by rfl) (.tmp 70) (.tmp 72) 23 35 (.agg #[.int .u64 0, .bool false]) 16 rfl Try.underlying23 infoLk rfl Nat.two_pos (by omega) v70 [] L A4 L.length c4 (fun k => k ≠ kx) (fun _ => False) rfl rfl HO.out (Kd.C_below HR4.out HV.out) (fun _ _ hh => hh) (fun _ hk => hk.elim) (fun k hk => by have h1 := blk_lt HXB.out; omega) HV.out HV.out.size (by simp; omega) ?_
            intro v73 w7 ho hb hg hat
            replace HXB := Aside0.mk (blk_grown HXB.out hg (fun he => HO.out.1 _ he.symm rfl))
            replace HGB := Aside0.mk (blk_grown HGB.out hg (fun he => own_ne HO.out HGB.out he))
            clear HO
            have HO := Aside0.mk ho
            replace HV := Aside0.mk hb
            clear ho hb hg hat
            refine hK_.out _ _ ⟨pw_cell_below HV.out HX0.out, pw_cell_below HV.out HX1.out, pw_cell_below HV.out HX2.out⟩ (fun hHeld => ?_)
            clear hK_ Kq_
            refine norm_ (a' := ?_) ?_ ?_
            rotate_left
            · show Act.put _ (some 73) _ = _
              simp only [Act.put, List.setIfInBounds_toArray, List.set_cons_zero, List.set_cons_succ]
              rfl
            refine one_ (i := 12) (N := some 78) #[t,t,t,t,t,t,t,t,t,t,t,t,t,f,t,f] rfl rfl (one_of HT_.out (by kernel_rfl)) (by decide) (fun Kq_ hK_ => ?_)
            refine Kd.R_append_rows_step Lk (w0 := W1) W1.heap.size (by rfl) (.tmp 73) (.tmp 77) 23 35 (.agg #[.int .u64 0, .bool false]) 16 rfl Try.underlying23 infoLk rfl Nat.two_pos (by omega) v73 ([] ++ L) [(x, true)] (some ⟨kx, 0, none⟩) 1 1 (fun k => k ≠ kx) (fun _ => False) rfl rfl HO.out (C_oneLk HXB.out) (fun _ _ hh => hh) (fun _ hk => hk.elim) (fun k hk => by have h1 := blk_lt HXB.out; omega) HV.out HV.out.size (by simp; omega) ?_
            intro v78 w7 ho hb hg hat
            replace HXB := Aside0.mk (blk_grown HXB.out hg (fun he => HO.out.1 _ he.symm rfl))
            replace HGB := Aside0.mk (blk_grown HGB.out hg (fun he => own_ne HO.out HGB.out he))
            obtain ⟨A9, c9, rfl⟩ := Kd.R_slice ho
            obtain ⟨n9, hn9⟩ : ∃ n9, n9 = ([] ++ L ++ [(x, true)]).length := ⟨_, rfl⟩
            rw [← hn9] at ho ⊢
            obtain rfl : n9 = L.length + 1 := by rw [hn9]; simp
            rw [List.nil_append] at ho
            clear hn9
            clear HO
            have HO := Aside0.mk ho
            replace HV := Aside0.mk hb
            clear ho hb hg hat
            refine hK_.out _ _ ⟨pw_cell_below HV.out HX0.out, pw_cell_below HV.out HX1.out, pw_cell_below HV.out HX2.out⟩ (fun hHeld => ?_)
            clear hK_ Kq_
            refine norm_ (a' := ?_) ?_ ?_
            rotate_left
            · show Act.put _ (some 78) _ = _
              simp only [Act.put, List.setIfInBounds_toArray, List.set_cons_zero, List.set_cons_succ]
              rfl
            refine pure_ (i := 13) (N := some 79) (v := ?_) (a' := ?_) #[t,t,t,t,t,t,t,t,t,t,t,t,t,t,t,f] rfl rfl (any_of HT_.out (by kernel_rfl)) (fun _ _ _ h => h) (Or.inl ⟨by rfl, ?_⟩) ?_ ?_
            rotate_left; · intro w'; go_simp; with_reducible rfl
            rotate_left; · simp only [Act.put, List.setIfInBounds_toArray, List.set_cons_zero, List.set_cons_succ]; rfl
            have h_ := hc_ (v70, v73, A9, c9, kx, kg) _ ⟨R_not_found HO.out HGB.out, HGB.out, HV.out, HGK.out⟩
            simp only [putAll, Act.put, List.setIfInBounds_toArray, List.set_cons_zero, List.set_cons_succ] at h_
            exact h_
        · refine newcells_ (.cells #[.int .u64 0, .bool false, .slice none 0 0] 25) (fun k => .pointer (some ⟨k, 0, none⟩)) (by rfl) rfl ?hr ?_
          (case hr => first | (go_simp; done) | (go_simp; rfl))
          intro kg W' hk_ hnew hb
          replace HXB := Aside0.mk ((hb.block _ (blk_lt HXB.out)).trans HXB.out)
          have HGK := Aside0.mk (show W1.heap.size ≤ kg from by have h1 := HV.out.size; omega)
          have HGB := Aside0.mk hnew
          replace HV := Aside0.mk (HV.out.trans (hb.mono HV.out.size))
          clear hk_ hnew hb
          refine hK_.out _ _ ⟨pw_cell_below HV.out HX0.out, pw_cell_below HV.out HX1.out, pw_cell_below HV.out HX2.out⟩ (fun hHeld => ?_)
          clear hK_ Kq_
          refine norm_ (a' := ?_) ?_ ?_
          rotate_left
          · show Act.put _ (some 10) _ = _
            simp only [Act.put, List.setIfInBounds_toArray, List.set_cons_zero, List.set_cons_succ]
            rfl
          refine one_ (i := 4) (N := some 70) #[t,t,t,t,t,t,t,f,t,t,t,t,f,f,t,f] rfl rfl (one_of HT_.out (by kernel_rfl)) (by decide) (fun Kq_ hK_ => ?_)
          refine Kd.R_lit_step Lk (w0 := W1) W1.heap.size 35 (by rfl) (N := 70) rfl (xs := []) (inner := []) (ok := fun k => k ≠ kx) (okp := fun k => k ≠ kx) ?hr (by constructor <;> simp) (fun _ hk => hk) (by have h1 := blk_lt HXB.out; omega) HV.out HV.out.size (by simp) ?_
          (case hr => first | (go_simp; done) | (go_simp; rfl))
          intro v70 w4 ho hb hg hat
          replace HXB := Aside0.mk (blk_grown HXB.out hg (by simp))
          replace HGB := Aside0.mk (blk_grown HGB.out hg (by simp))
          have HO := Aside0.mk ho
          replace HV := Aside0.mk hb
          clear ho hb hg hat
          refine hK_.out _ _ ⟨pw_cell_below HV.out HX0.out, pw_cell_below HV.out HX1.out, pw_cell_below HV.out HX2.out⟩ (fun hHeld => ?_)
          clear hK_ Kq_
          refine norm_ (a' := ?_) ?_ ?_
          rotate_left
          · show Act.put _ (some 70) _ = _
            simp only [Act.put, List.setIfInBounds_toArray, List.set_cons_zero, List.set_cons_succ]
            rfl
          refine one_ (i := 7) (N := some 73) #[t,t,t,t,t,t,t,t,t,t,t,t,f,f,t,f] rfl rfl (one_of HT_.out (by kernel_rfl)) (by decide) (fun Kq_ hK_ => ?_)
          refine Kd.R_append_rows_step Lk (w0 := W1) W1.heap.size (by rfl) (.tmp 70) (.tmp 72) 23 35 (.agg #[.int .u64 0, .bool false]) 16 rfl Try.underlying23 infoLk rfl Nat.two_pos (by omega) v70 [] L A4 L.length c4 (fun k => k ≠ kx) (fun _ => False) rfl rfl HO.out (Kd.C_below HR4.out HV.out) (fun _ _ hh => hh) (fun _ hk => hk.elim) (fun k hk => by have h1 := blk_lt HXB.out; omega) HV.out HV.out.size (by simp; omega) ?_
          intro v73 w7 ho hb hg hat
          replace HXB := Aside0.mk (blk_grown HXB.out hg (fun he => HO.out.1 _ he.symm rfl))
          replace HGB := Aside0.mk (blk_grown HGB.out hg (fun he => own_ne HO.out HGB.out he))
          clear HO
          have HO := Aside0.mk ho
          replace HV := Aside0.mk hb
          clear ho hb hg hat
          refine hK_.out _ _ ⟨pw_cell_below HV.out HX0.out, pw_cell_below HV.out HX1.out, pw_cell_below HV.out HX2.out⟩ (fun hHeld => ?_)
          clear hK_ Kq_
          refine norm_ (a' := ?_) ?_ ?_
          rotate_left
          · show Act.put _ (some 73) _ = _
            simp only [Act.put, List.setIfInBounds_toArray, List.set_cons_zero, List.set_cons_succ]
            rfl
          refine one_ (i := 12) (N := some 78) #[t,t,t,t,t,t,t,t,t,t,t,t,t,f,t,f] rfl rfl (one_of HT_.out (by kernel_rfl)) (by decide) (fun Kq_ hK_ => ?_)
          refine Kd.R_append_rows_step Lk (w0 := W1) W1.heap.size (by rfl) (.tmp 73) (.tmp 77) 23 35 (.agg #[.int .u64 0, .bool false]) 16 rfl Try.underlying23 infoLk rfl Nat.two_pos (by omega) v73 ([] ++ L) [(x, true)] (some ⟨kx, 0, none⟩) 1 1 (fun k => k ≠ kx) (fun _ => False) rfl rfl HO.out (C_oneLk HXB.out) (fun _ _ hh => hh) (fun _ hk => hk.elim) (fun k hk => by have h1 := blk_lt HXB.out; omega) HV.out HV.out.size (by simp; omega) ?_
          intro v78 w7 ho hb hg hat
          replace HXB := Aside0.mk (blk_grown HXB.out hg (fun he => HO.out.1 _ he.symm rfl))
          replace HGB := Aside0.mk (blk_grown HGB.out hg (fun he => own_ne HO.out HGB.out he))
          obtain ⟨A9, c9, rfl⟩ := Kd.R_slice ho
          obtain ⟨n9, hn9⟩ : ∃ n9, n9 = ([] ++ L ++ [(x, true)]).length := ⟨_, rfl⟩
          rw [← hn9] at ho ⊢
          obtain rfl : n9 = L.length + 1 := by rw [hn9]; simp
          rw [List.nil_append] at ho
          clear hn9
          clear HO
          have HO := Aside0.mk ho
          replace HV := Aside0.mk hb
          clear ho hb hg hat
          refine hK_.out _ _ ⟨pw_cell_below HV.out HX0.out, pw_cell_below HV.out HX1.out, pw_cell_below HV.out HX2.out⟩ (fun hHeld => ?_)
          clear hK_ Kq_
          refine norm_ (a' := ?_) ?_ ?_
          rotate_left
          · show Act.put _ (some 78) _ = _
            simp only [Act.put, List.setIfInBounds_toArray, List.set_cons_zero, List.set_cons_succ]
            rfl
          refine pure_ (i := 13) (N := some 79) (v := ?_) (a' := ?_) #[t,t,t,t,t,t,t,t,t,t,t,t,t,t,t,f] rfl rfl (any_of HT_.out (by kernel_rfl)) (fun _ _ _ h => h) (Or.inl ⟨by rfl, ?_⟩) ?_ ?_
          rotate_left; · intro w'; go_simp; with_reducible rfl
          rotate_left; · simp only [Act.put, List.setIfInBounds_toArray, List.set_cons_zero, List.set_cons_succ]; rfl
          have h_ := hc_ (v70, v73, A9, c9, kx, kg) _ ⟨R_not_found HO.out HGB.out, HGB.out, HV.out, HGK.out⟩
          simp only [putAll, Act.put, List.setIfInBounds_toArray, List.set_cons_zero, List.set_cons_succ] at h_
          exact h_
      · refine newcells_ (.cells #[.int .u64 0, .bool false, .slice none 0 0] 25) (fun k => .pointer (some ⟨k, 0, none⟩)) (by rfl) rfl ?hr ?_
        (case hr => first | (go_simp; done) | (go_simp; rfl))
        intro kg W' hk_ hnew hb
        have HGK := Aside0.mk (show W1.heap.size ≤ kg from by have h1 := HV.out.size; omega)
        have HGB := Aside0.mk hnew
        replace HV := Aside0.mk (HV.out.trans (hb.mono HV.out.size))
        clear hk_ hnew hb
        refine hK_.out _ _ ⟨pw_cell_below HV.out HX0.out, pw_cell_below HV.out HX1.out, pw_cell_below HV.out HX2.out⟩ (fun hHeld => ?_)
        clear hK_ Kq_
        refine norm_ (a' := ?_) ?_ ?_
        rotate_left
        · show Act.put _ (some 10) _ = _
          simp only [Act.put, List.setIfInBounds_toArray, List.set_cons_zero, List.set_cons_succ]
          rfl
        refine two_ (i := 4) (j := 11) (Ni := some 70) (Nj := some 77) #[t,t,t,t,t,t,t,f,t,t,t,f,f,f,t,f] #[t,t,t,t,f,t,t,f,t,t,t,t,f,f,t,f] rfl rfl rfl rfl (two_of HT_.out (by kernel_rfl)) (by decide) (by decide) (fun Kq_ hK_ => ?_) (fun Kq_ hK_ => ?_)
        · refine Kd.R_lit_step Lk (w0 := W1) W1.heap.size 35 (by rfl) (N := 70) rfl (xs := []) (inner := []) (ok := fun _ => True) (okp := fun _ => True) ?hr (by constructor <;> simp) (fun _ hk => hk) trivial HV.out HV.out.size (by simp) ?_
          (case hr => first | (go_simp; done) | (go_simp; rfl))
          intro v70 w4 ho hb hg hat
          replace HGB := Aside0.mk (blk_grown HGB.out hg (by simp))
          have HO := Aside0.mk ho
          replace HV := Aside0.mk hb
          clear ho hb hg hat
          refine hK_.out _ _ ⟨pw_cell_below HV.out HX0.out, pw_cell_below HV.out HX1.out, pw_cell_below HV.out HX2.out⟩ (fun hHeld => ?_)
          clear hK_ Kq_
          refine norm_ (a' := ?_) ?_ ?_
          rotate_left
          · show Act.put _ (some 70) _ = _
            simp only [Act.put, List.setIfInBounds_toArray, List.set_cons_zero, List.set_cons_succ]
            rfl
          refine two_ (i := 7) (j := 11) (Ni := some 73) (Nj := some 77) #[t,t,t,t,t,t,t,t,t,t,t,f,f,f,t,f] #[t,t,t,t,t,t,t,f,t,t,t,t,f,f,t,f] rfl rfl rfl rfl (two_of HT_.out (by kernel_rfl)) (by decide) (by decide) (fun Kq_ hK_ => ?_) (fun Kq_ hK_ => ?_)
          · refine Kd.R_append_rows_step Lk (w0 := W1) W1.heap.size (by rfl) (.tmp 70) (.tmp 72) 23 35 (.agg #[.int .u64 0, .bool false]) 16 rfl Try.underlying23 infoLk rfl Nat.two_pos (by omega) v70 [] L A4 L.length c4 (fun _ => True) (fun _ => False) rfl rfl HO.out (Kd.C_below HR4.out HV.out) (fun _ _ hh => hh) (fun _ hk => hk.elim) (fun _ _ => trivial) HV.out HV.out.size (by simp; omega) ?_
            intro v73 w7 ho hb hg hat
            replace HGB := Aside0.mk (blk_grown HGB.out hg (fun he => own_ne HO.out HGB.out he))
            clear HO
            have HO := Aside0.mk ho
            replace HV := Aside0.mk hb
            clear ho hb hg hat
            refine hK_.out _ _ ⟨pw_cell_below HV.out HX0.out, pw_cell_below HV.out HX1.out, pw_cell_below HV.out HX2.out⟩ (fun hHeld => ?_)
            clear hK_ Kq_
            refine norm_ (a' := ?_) ?_ ?_
            rotate_left
            · show Act.put _ (some 73) _ = _
              simp only [Act.put, List.setIfInBounds_toArray, List.set_cons_zero, List.set_cons_succ]
              rfl
            refine one_ (i := 11) (N := some 77) #[t,t,t,t,t,t,t,t,t,t,t,t,f,f,t,f] rfl rfl (one_of HT_.out (by kernel_rfl)) (by decide) (fun Kq_ hK_ => ?_)
            refine newcells_ (.cells #[.int .u64 x, .bool true] 35) (fun k => .slice (some ⟨k, 0, none⟩) 1 1) (by rfl) rfl ?hr ?_
            (case hr => first | (go_simp; done) | (go_simp; rfl))
            intro kx W' hk_ hnew hb
            replace HO := Aside0.mk (show Kd.R Lk 35 W' W1.heap.size (fun k => k ≠ kx) v73 ([] ++ L) from Kd.R_mono (Kd.R_below (Kd.R_bound HO.out) hb) (fun k hk => by have h1 := hk.2.2.1; omega))
            replace HGB := Aside0.mk ((hb.block _ (blk_lt HGB.out)).trans HGB.out)
            have HXB := Aside0.mk hnew
            replace HV := Aside0.mk (HV.out.trans (hb.mono HV.out.size))
            clear hk_ hnew hb
            refine hK_.out _ _ ⟨pw_cell_below HV.out HX0.out, pw_cell_below HV.out HX1.out, pw_cell_below HV.out HX2.out⟩ (fun hHeld => ?_)
            clear hK_ Kq_
            refine norm_ (a' := ?_) ?_ ?_
            rotate_left
            · show Act.put _ (some 77) _ = _
              simp only [Act.put, List.setIfInBounds_toArray, List.set_cons_zero, List.set_cons_succ]
              rfl
            refine one_ (i := 12) (N := some 78) #[t,t,t,t,t,t,t,t,t,t,t,t,t,f,t,f] rfl rfl (one_of HT_.out (by kernel_rfl)) (by decide) (fun Kq_ hK_ => ?_)
            refine Kd.R_append_rows_step Lk (w0 := W1) W1.heap.size (by rfl) (.tmp 73) (.tmp 77) 23 35 (.agg #[.int .u64 0, .bool false]) 16 rfl Try.underlying23 infoLk rfl Nat.two_pos (by omega) v73 ([] ++ L) [(x, true)] (some ⟨kx, 0, none⟩) 1 1 (fun k => k ≠ kx) (fun _ => False) rfl rfl HO.out (C_oneLk HXB.out) (fun _ _ hh => hh) (fun _ hk => hk.elim) (fun k hk => by have h1 := blk_lt HXB.out; omega) HV.out HV.out.size (by simp; omega) ?_
            intro v78 w7 ho hb hg hat
            replace HXB := Aside0.mk (blk_grown HXB.out hg (fun he => HO.out.1 _ he.symm rfl))
            replace HGB := Aside0.mk (blk_grown HGB.out hg (fun he => own_ne HO.out HGB.out he))
            obtain ⟨A9, c9, rfl⟩ := Kd.R_slice ho
            obtain ⟨n9, hn9⟩ : ∃ n9, n9 = ([] ++ L ++ [(x, true)]).length := ⟨_, rfl⟩
            rw [← hn9] at ho ⊢
            obtain rfl : n9 = L.length + 1 := by rw [hn9]; simp
            rw [List.nil_append] at ho
            clear hn9
            clear HO
            have HO := Aside0.mk ho
            replace HV := Aside0.mk hb
            clear ho hb hg hat
            refine hK_.out _ _ ⟨pw_cell_below HV.out HX0.out, pw_cell_below HV.out HX1.out, pw_cell_below HV.out HX2.out⟩ (fun hHeld => ?_)
            clear hK_ Kq_
            refine norm_ (a' := ?_) ?_ ?_
            rotate_left
            · show Act.put _ (some 78) _ = _
              simp only [Act.put, List.setIfInBounds_toArray, List.set_cons_zero, List.set_cons_succ]
              rfl
            refine pure_ (i := 13) (N := some 79) (v := ?_) (a' := ?_) #[t,t,t,t,t,t,t,t,t,t,t,t,t,t,t,f] rfl rfl (any_of HT_.out (by kernel_rfl)) (fun _ _ _ h => h) (Or.inl ⟨by rfl, ?_⟩) ?_ ?_
            rotate_left; · intro w'; go_simp; with_reducible rfl
            rotate_left; · simp only [Act.put, List.setIfInBounds_toArray, List.set_cons_zero, List.set_cons_succ]; rfl
            have h_ := hc_ (v70, v73, A9, c9, kx, kg) _ ⟨R_not_found HO.out HGB.out, HGB.out, HV.out, HGK.out⟩
            simp only [putAll, Act.put, List.setIfInBounds_toArray, List.set_cons_zero, List.set_cons_succ] at h_
            exact h_
          · refine newcells_ (.cells #[.int .u64 x, .bool true] 35) (fun k => .slice (some ⟨k, 0, none⟩) 1 1) (by rfl) rfl ?hr ?_
            (case hr => first | (go_simp; done) | (go_simp; rfl))
            intro kx W' hk_ hnew hb
            replace HO := Aside0.mk (show Kd.R Lk 35 W' W1.heap.size (fun k => k ≠ kx) v70 [] from Kd.R_mono (Kd.R_below (Kd.R_bound HO.out) hb) (fun k hk => by have h1 := hk.2.2.1; omega))
            replace HGB := Aside0.mk ((hb.block _ (blk_lt HGB.out)).trans HGB.out)
            have HXB := Aside0.mk hnew
            replace HV := Aside0.mk (HV.out.trans (hb.mono HV.out.size))
            clear hk_ hnew hb
            refine hK_.out _ _ ⟨pw_cell_below HV.out HX0.out, pw_cell_below HV.out HX1.out, pw_cell_below HV.out HX2.out⟩ (fun hHeld => ?_)
            clear hK_ Kq_
            refine norm_ (a' := ?_) ?_ ?_
            rotate_left
            · show Act.put _ (some 77) _ = _
              simp only [Act.put, List.setIfInBounds_toArray, List.set_cons_zero, List.set_cons_succ]
              rfl
            refine one_ (i := 7) (N := some 73) #[t,t,t,t,t,t,t,t,t,t,t,t,f,f,t,f] rfl rfl (one_of HT_.out (by kernel_rfl)) (by decide) (fun Kq_ hK_ => ?_)
            refine Kd.R_append_rows_step Lk (w0 := W1) W1.heap.size (by rfl) (.tmp 70) (.tmp 72) 23 35 (.agg #[.int .u64 0, .bool false]) 16 rfl Try.underlying23 infoLk rfl Nat.two_pos (by omega) v70 [] L A4 L.length c4 (fun k => k ≠ kx) (fun _ => False) rfl rfl HO.out (Kd.C_below HR4.out HV.out) (fun _ _ hh => hh) (fun _ hk => hk.elim) (fun k hk => by have h1 := blk_lt HXB.out; omega) HV.out HV.out.size (by simp; omega) ?_
            intro v73 w7 ho hb hg hat
            replace HXB := Aside0.mk (blk_grown HXB.out hg (fun he => HO.out.1 _ he.symm rfl))
            replace HGB := Aside0.mk (blk_grown HGB.out hg (fun he => own_ne HO.out HGB.out he))
            clear HO
            have HO := Aside0.mk ho
            replace HV := Aside0.mk hb
            clear ho hb hg hat
            refine hK_.out _ _ ⟨pw_cell_below HV.out HX0.out, pw_cell_below HV.out HX1.out, pw_cell_below HV.out HX2.out⟩ (fun hHeld => ?_)
            clear hK_ Kq_
            refine norm_ (a' := ?_) ?_ ?_
            rotate_left
            · show Act.put _ (some 73) _ = _
              simp only [Act.put, List.setIfInBounds_toArray, List.set_cons_zero, List.set_cons_succ]
              rfl
            refine one_ (i := 12) (N := some 78) #[t,t,t,t,t,t,t,t,t,t,t,t,t,f,t,f] rfl rfl (one_of HT_.out (by kernel_rfl)) (by decide) (fun Kq_ hK_ => ?_)
            refine Kd.R_append_rows_step Lk (w0 := W1) W1.heap.size (by rfl) (.tmp 73) (.tmp 77) 23 35 (.agg #[.int .u64 0, .bool false]) 16 rfl Try.underlying23 infoLk rfl Nat.two_pos (by omega) v73 ([] ++ L) [(x, true)] (some ⟨kx, 0, none⟩) 1 1 (fun k => k ≠ kx) (fun _ => False) rfl rfl HO.out (C_oneLk HXB.out) (fun _ _ hh => hh) (fun _ hk => hk.elim) (fun k hk => by have h1 := blk_lt HXB.out; omega) HV.out HV.out.size (by simp; omega) ?_
            intro v78 w7 ho hb hg hat
            replace HXB := Aside0.mk (blk_grown HXB.out hg (fun he => HO.out.1 _ he.symm rfl))
            replace HGB := Aside0.mk (blk_grown HGB.out hg (fun he => own_ne HO.out HGB.out he))
            obtain ⟨A9, c9, rfl⟩ := Kd.R_slice ho
            obtain ⟨n9, hn9⟩ : ∃ n9, n9 = ([] ++ L ++ [(x, true)]).length := ⟨_, rfl⟩
            rw [← hn9] at ho ⊢
            obtain rfl : n9 = L.length + 1 := by rw [hn9]; simp
            rw [List.nil_append] at ho
            clear hn9
            clear HO
            have HO := Aside0.mk ho
            replace HV := Aside0.mk hb
            clear ho hb hg hat
            refine hK_.out _ _ ⟨pw_cell_below HV.out HX0.out, pw_cell_below HV.out HX1.out, pw_cell_below HV.out HX2.out⟩ (fun hHeld => ?_)
            clear hK_ Kq_
            refine norm_ (a' := ?_) ?_ ?_
            rotate_left
            · show Act.put _ (some 78) _ = _
              simp only [Act.put, List.setIfInBounds_toArray, List.set_cons_zero, List.set_cons_succ]
              rfl
            refine pure_ (i := 13) (N := some 79) (v := ?_) (a' := ?_) #[t,t,t,t,t,t,t,t,t,t,t,t,t,t,t,f] rfl rfl (any_of HT_.out (by kernel_rfl)) (fun _ _ _ h => h) (Or.inl ⟨by rfl, ?_⟩) ?_ ?_
            rotate_left; · intro w'; go_simp; with_reducible rfl
            rotate_left; · simp only [Act.put, List.setIfInBounds_toArray, List.set_cons_zero, List.set_cons_succ]; rfl
            have h_ := hc_ (v70, v73, A9, c9, kx, kg) _ ⟨R_not_found HO.out HGB.out, HGB.out, HV.out, HGK.out⟩
            simp only [putAll, Act.put, List.setIfInBounds_toArray, List.set_cons_zero, List.set_cons_succ] at h_
            exact h_
        · refine newcells_ (.cells #[.int .u64 x, .bool true] 35) (fun k => .slice (some ⟨k, 0, none⟩) 1 1) (by rfl) rfl ?hr ?_
          (case hr => first | (go_simp; done) | (go_simp; rfl))
          intro kx W' hk_ hnew hb
          replace HGB := Aside0.mk ((hb.block _ (blk_lt HGB.out)).trans HGB.out)
          have HXB := Aside0.mk hnew
          replace HV := Aside0.mk (HV.out.trans (hb.mono HV.out.size))
          clear hk_ hnew hb
          refine hK_.out _ _ ⟨pw_cell_below HV.out HX0.out, pw_cell_below HV.out HX1.out, pw_cell_below HV.out HX2.out⟩ (fun hHeld => ?_)
          clear hK_ Kq_
          refine norm_ (a' := ?_) ?_ ?_
          rotate_left
          · show Act.put _ (some 77) _ = _
            simp only [Act.put, List.setIfInBounds_toArray, List.set_cons_zero, List.set_cons_succ]
            rfl
          refine one_ (i := 4) (N := some 70) #[t,t,t,t,t,t,t,f,t,t,t,t,f,f,t,f] rfl rfl (one_of HT_.out (by kernel_rfl)) (by decide) (fun Kq_ hK_ => ?_)
          refine Kd.R_lit_step Lk (w0 := W1) W1.heap.size 35 (by rfl) (N := 70) rfl (xs := []) (inner := []) (ok := fun k => k ≠ kx) (okp := fun k => k ≠ kx) ?hr (by constructor <;> simp) (fun _ hk => hk) (by have h1 := blk_lt HXB.out; omega) HV.out HV.out.size (by simp) ?_
          (case hr => first | (go_simp; done) | (go_simp; rfl))
          intro v70 w4 ho hb hg hat
          replace HXB := Aside0.mk (blk_grown HXB.out hg (by simp))
          replace HGB := Aside0.mk (blk_grown HGB.out hg (by simp))
          have HO := Aside0.mk ho
          replace HV := Aside0.mk hb
          clear ho hb hg hat
          refine hK_.out _ _ ⟨pw_cell_below HV.out HX0.out, pw_cell_below HV.out HX1.out, pw_cell_below HV.out HX2.out⟩ (fun hHeld => ?_)
          clear hK_ Kq_
          refine norm_ (a' := ?_) ?_ ?_
          rotate_left
          · show Act.put _ (some 70) _ = _
            simp only [Act.put, List.setIfInBounds_toArray, List.set_cons_zero, List.set_cons_succ]
            rfl
          refine one_ (i := 7) (N := some 73) #[t,t,t,t,t,t,t,t,t,t,t,t,f,f,t,f] rfl rfl (one_of HT_.out (by kernel_rfl)) (by decide) (fun Kq_ hK_ => ?_)
          refine Kd.R_append_rows_step Lk (w0 := W1) W1.heap.size (by rfl) (.tmp 70) (.tmp 72) 23 35 (.agg #[.int .u64 0, .bool false]) 16 rfl Try.underlying23 infoLk rfl Nat.two_pos (by omega) v70 [] L A4 L.length c4 (fun k => k ≠ kx) (fun _ => False) rfl rfl HO.out (Kd.C_below HR4.out HV.out) (fun _ _ hh => hh) (fun _ hk => hk.elim) (fun k hk => by have h1 := blk_lt HXB.out; omega) HV.out HV.out.size (by simp; omega) ?_
          intro v73 w7 ho hb hg hat
          replace HXB := Aside0.mk (blk_grown HXB.out hg (fun he => HO.out.1 _ he.symm rfl))
          replace HGB := Aside0.mk (blk_grown HGB.out hg (fun he => own_ne HO.out HGB.out he))
          clear HO
          have HO := Aside0.mk ho
          replace HV := Aside0.mk hb
          clear ho hb hg hat
          refine hK_.out _ _ ⟨pw_cell_below HV.out HX0.out, pw_cell_below HV.out HX1.out, pw_cell_below HV.out HX2.out⟩ (fun hHeld => ?_)
          clear hK_ Kq_
          refine norm_ (a' := ?_) ?_ ?_
          rotate_left
          · show Act.put _ (some 73) _ = _
            simp only [Act.put, List.setIfInBounds_toArray, List.set_cons_zero, List.set_cons_succ]
            rfl
          refine one_ (i := 12) (N := some 78) #[t,t,t,t,t,t,t,t,t,t,t,t,t,f,t,f] rfl rfl (one_of HT_.out (by kernel_rfl)) (by decide) (fun Kq_ hK_ => ?_)
          refine Kd.R_append_rows_step Lk (w0 := W1) W1.heap.size (by rfl) (.tmp 73) (.tmp 77) 23 35 (.agg #[.int .u64 0, .bool false]) 16 rfl Try.underlying23 infoLk rfl Nat.two_pos (by omega) v73 ([] ++ L) [(x, true)] (some ⟨kx, 0, none⟩) 1 1 (fun k => k ≠ kx) (fun _ => False) rfl rfl HO.out (C_oneLk HXB.out) (fun _ _ hh => hh) (fun _ hk => hk.elim) (fun k hk => by have h1 := blk_lt HXB.out; omega) HV.out HV.out.size (by simp; omega) ?_
          intro v78 w7 ho hb hg hat
          replace HXB := Aside0.mk (blk_grown HXB.out hg (fun he => HO.out.1 _ he.symm rfl))
          replace HGB := Aside0.mk (blk_grown HGB.out hg (fun he => own_ne HO.out HGB.out he))
          obtain ⟨A9, c9, rfl⟩ := Kd.R_slice ho
          obtain ⟨n9, hn9⟩ : ∃ n9, n9 = ([] ++ L ++ [(x, true)]).length := ⟨_, rfl⟩
          rw [← hn9] at ho ⊢
          obtain rfl : n9 = L.length + 1 := by rw [hn9]; simp
          rw [List.nil_append] at ho
          clear hn9
          clear HO
          have HO := Aside0.mk ho
          replace HV := Aside0.mk hb
          clear ho hb hg hat
          refine hK_.out _ _ ⟨pw_cell_below HV.out HX0.out, pw_cell_below HV.out HX1.out, pw_cell_below HV.out HX2.out⟩ (fun hHeld => ?_)
          clear hK_ Kq_
          refine norm_ (a' := ?_) ?_ ?_
          rotate_left
          · show Act.put _ (some 78) _ = _
            simp only [Act.put, List.setIfInBounds_toArray, List.set_cons_zero, List.set_cons_succ]
            rfl
          refine pure_ (i := 13) (N := some 79) (v := ?_) (a' := ?_) #[t,t,t,t,t,t,t,t,t,t,t,t,t,t,t,f] rfl rfl (any_of HT_.out (by kernel_rfl)) (fun _ _ _ h => h) (Or.inl ⟨by rfl, ?_⟩) ?_ ?_
          rotate_left; · intro w'; go_simp; with_reducible rfl
          rotate_left; · simp only [Act.put, List.setIfInBounds_toArray, List.set_cons_zero, List.set_cons_succ]; rfl
          have h_ := hc_ (v70, v73, A9, c9, kx, kg) _ ⟨R_not_found HO.out HGB.out, HGB.out, HV.out, HGK.out⟩
          simp only [putAll, Act.put, List.setIfInBounds_toArray, List.set_cons_zero, List.set_cons_succ] at h_
          exact h_
end Go.Proofs.Ytoojmbifkjocfaa.Proof
