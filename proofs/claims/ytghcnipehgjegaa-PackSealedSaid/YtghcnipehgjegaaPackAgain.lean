/- PackAgain answers true for every list of cells. No conditions. -/
import Derived.Test.YtghcnipehgjegaaPackAwake
import Derived.Test.YtghcnipehgjegaaPackOpen
import Derived.Test.YtghcnipehgjegaaPackSame
import Derived.Test.YtghcnipehgjegaaCellRefAny
namespace Go.Proofs.Ytghcnipehgjegaa.Cell
open Go.RowKit Go.Proofs.YtghcnipehgjegaaW.PrintWords Go.Proofs.YtghcnipehgjegaaW.PrintLast Go.Proofs.YtghcnipehgjegaaW.PrintMore Go.Proofs.Ytghcnipehgjegaa.Kit Go.Proofs.Ytghcnipehgjegaa.Plain Go.Proofs.Ytghcnipehgjegaa.Wire
attribute [local go_sem] max2_int min2_int max_two min_two max_three min_three
set_option linter.unusedVariables false
set_option linter.unusedSimpArgs false
theorem worst_nat (n : Nat) (w : World) : Calls Try.prog 15 #[.int .i64 (n : Int)] w fun e w' => e = .returned (.int .i64 (n : Int)) ∧ w = w' := by
  rcases Nat.eq_zero_or_pos n with h | h
  · subst h
    go_enter Try.func15, Try.ntmps15
    go_wp2
    go_ret
    exact ⟨rfl, rfl⟩
  · have h1 : ¬ (n : Int) < 0 := by omega
    have h2 : ¬ (n : Int) ≤ 0 := by omega
    have h3 : 0 ≤ (n : Int) := by omega
    have h4 : n ≠ 0 := by omega
    go_enter Try.func15, Try.ntmps15
    go_wp2
    go_ret
    exact ⟨rfl, rfl⟩
/-- Cells in block ad.block, their bodies one's own. -/
structure Cells (W : World) (base : Nat) (ad : Addr) (g : List Cel) (n : Nat) : Prop where
  at_ : ∀ q, q < n → ∃ A kk, CelIn W (ad.add (q * 11)) (gdC g q) A kk ∧ CelD.M W base (fun _ => True) (gdC g q) (celA (gdC g q) A kk).toList
  lt : ad.block < W.heap.size
theorem cells_of {W : World} {base base' n c : Nat} {ad : Addr} {g : List Cel} (h : OwC W base (.slice (some ad) n c) g) (hb : base' ≤ base) : Cells W base' ad g n := by
  refine ⟨fun q hq => ?_, Kd.R_lt h ad.block rfl⟩
  obtain ⟨cs, hcl, hM, hcc⟩ := Kd.R_getA h cel0 (q : Int) (by omega) (by omega)
  obtain ⟨A, kk, rfl, hl, hC⟩ := celD_open (CelD.K_of_M hM)
  have hg : ∀ j u, (celA (gdC g q) A kk).toList[j]? = some u → W.cell? (ad.add (q * 11 + j)) = some u := hcc
  refine ⟨A, kk, ⟨hg 0 _ rfl, ?_, ?_, ?_, ?_, ?_, ?_, ?_, ?_, ?_, ?_⟩, CelD.M_mono (fun _ _ => trivial) (CelD.M_lower hb hM)⟩ <;> rw [← add_plus]
  · exact hg 1 _ rfl
  · exact hg 2 _ rfl
  · exact hg 3 _ rfl
  · exact hg 4 _ rfl
  · exact hg 5 _ rfl
  · exact hg 6 _ rfl
  · exact hg 7 _ rfl
  · exact hg 8 _ rfl
  · exact hg 9 _ rfl
  · exact hg 10 _ rfl
theorem Cells.below {W W' : World} {base n : Nat} {ad : Addr} {g : List Cel} (h : Cells W base ad g n) (hb : Below W.heap.size W W') : Cells W' base ad g n :=
  ⟨fun q hq => by
    obtain ⟨A, kk, h1, h2⟩ := h.at_ q hq
    exact ⟨A, kk, h1.below hb, CelD.M_mono (fun _ _ => trivial) (CelD.M_move (fun k hk => hb.block k hk.2.2.1) (CelD.M_bound h2))⟩, Nat.lt_of_lt_of_le h.lt hb.size⟩
theorem cell_blk {W W' : World} {a : Addr} {u : Value} (h : W.cell? a = some u) (hs : W'.heap[a.block]? = W.heap[a.block]?) : W'.cell? a = some u := by
  rw [← h]
  exact World.cell?_of_block hs
theorem add_block (a : Addr) (k : Nat) : (a.add k).block = a.block := by unfold Addr.add; split <;> rfl
theorem CelIn.blk {W W' : World} {a : Addr} {x : Cel} {A : Option Addr} {c : Nat} (h : CelIn W a x A c) (hs : W'.heap[a.block]? = W.heap[a.block]?) : CelIn W' a x A c := by
  obtain ⟨h0, h1, h2, h3, h4, h5, h6, h7, h8, h9, h10⟩ := h
  exact ⟨cell_blk h0 hs, cell_blk h1 hs, cell_blk h2 hs, cell_blk h3 hs, cell_blk h4 hs, cell_blk h5 hs, cell_blk h6 hs, cell_blk h7 hs, cell_blk h8 hs, cell_blk h9 hs, cell_blk h10 hs⟩
theorem celE_u8 {q : Nat} (h : q ∈ CelD.E) : q = 5 := by simpa [CelD, comap, TupK, Kd.pair, Kd.int, Kd.scalar, Kd.slice, Rw] using h
theorem Cells.over {W W' : World} {base b2 n : Nat} {ad : Addr} {g l : List Cel} {v : Value} (h : Cells W base ad g n) (hv : OwC W b2 v l) (hg : W.grownBy W' v.ownBlock) (hne : some ad.block ≠ v.ownBlock) : Cells W' base ad g n := by
  refine ⟨fun q hq => ?_, Nat.lt_of_lt_of_le h.lt hg.size⟩
  obtain ⟨A, kk, h1, h2⟩ := h.at_ q hq
  refine ⟨A, kk, h1.blk (by rw [add_block]; exact hg.block _ h.lt hne), CelD.M_mono (fun _ _ => trivial) (CelD.M_move (fun k hk => ?_) (CelD.M_bound h2))⟩
  obtain ⟨_, _, hlt, q, hq, cells, hc⟩ := hk
  have := celE_u8 hq
  subst this
  exact hg.block k hlt (Kd.R_ne hv hc (by decide))
theorem add_zeroA (a : Addr) : a.add (0 * 11) = a := by
  rw [Nat.zero_mul]
  unfold Addr.add
  split <;> simp_all
theorem celA_inj {x : Cel} {A A' : Option Addr} {c c' : Nat} (h : (celA x A c).toList = (celA x A' c').toList) : A' = A ∧ c' = c := by
  simp only [celA, List.cons.injEq, Value.slice.injEq, and_true, true_and] at h
  exact ⟨h.1.symm, h.2.symm⟩
theorem all_apart {W W' : World} {base n c : Nat} {v : Value} {ad : Addr} {l g : List Cel} (h : OwC W base v l) (hc : OwC W' W.heap.size (.slice (some ad) n c) g) : some ad.block ≠ v.ownBlock := fun he => by
  have h1 := Kd.R_lt h ad.block he.symm
  have h2 := Kd.R_base hc ad.block rfl
  omega
theorem apart_on {W : World} {v v1 : Value} {k : Nat} (h : some k ≠ v.ownBlock) (hlt : k < W.heap.size) (hat : v1.ownBlock = v.ownBlock ∨ ∃ b, v1.ownBlock = some b ∧ W.heap.size ≤ b) : some k ≠ v1.ownBlock := fun he => by
  rcases hat with hat | ⟨b, hb, hbb⟩
  · exact h (by rw [← hat]; exact he)
  · rw [hb] at he; injection he with he; omega
theorem take_flat {G : List (List Cel)} {i : Nat} (h : i < G.length) : (G.take (i + 1)).flatten = (G.take i).flatten ++ nthG G i := by
  rw [List.take_succ_eq_append_getElem h, List.flatten_append]
  simp [nthG, h]
def tabPa18 : Bool × List (List Nat × List Nat) := (true, [([], []), ([0], [0]), ([1], [1]), ([2], [2]), ([3, 2], [2, 3]), ([4, 2], [2, 4]), ([2, 5], [2, 5]), ([6, 2], [6]), ([7], [7]), ([7], [7]), ([8, 9, 7], [7, 8, 9]), ([10, 7], [7, 10]), ([11, 7], [7, 11]), ([12, 7], [7, 12]), ([7, 13], [7, 13]), ([14, 7], [14]), ([15], [15]), ([16, 15], [15, 16]), ([17, 15, 15], [15, 17]), ([18], [18]), ([18], [18]), ([20, 18], [18, 20]), ([19, 21, 18], [18, 19, 21]), ([22, 18], [18, 22]), ([23, 18], [18, 23]), ([18], [18]), ([25, 18], [18, 25]), ([26, 18], [18, 26]), ([27, 18, 18], [18, 27]), ([24, 28, 18], [18, 24, 28]), ([29, 18], [18, 29]), ([18, 30, 15], [15, 18, 30]), ([15, 31], [15, 31])])
theorem tabPa18_ok : rtab .any (opsOf Try.f7 18) = tabPa18 := by kernel_rfl
set_option maxHeartbeats 6400000 in
set_option maxRecDepth 100000 in
theorem again_law (B0 : Option Addr) (n0 bc : Nat) (l : List Cel) (w : World) (hr : Kd.C CelD w B0 n0 l) (ht : ∀ x ∈ l, CelTy x) :
    Calls Try.prog 7 #[.slice B0 n0 bc] w fun e w' => e = .returned (.bool true) ∧ Below w.heap.size w w' := by
  obtain rfl := Kd.C_len hr
  have hmx := Kd.C_max hr
  have HR := Aside0.mk hr
  have HT := Aside0.mk ht
  clear hr ht
  have HB := Aside0.mk (Below.refl w.heap.size w)
  by_cases hlen : 20 < l.length
  · have g0 : decide (20 < (l.length : Int)) = true := decide_eq_true (by omega)
    go_enter Try.func7, Try.ntmps7
    go_wp2_with (go_at_call 9; go_must (refine (awake13_any _).mono ?_; rintro e w1 ⟨rfl, hb⟩; clear HB; have HB := Aside0.mk hb; clear hb))
    go_ret
    exact ⟨rfl, HB.out⟩
  have g0 : decide (20 < (l.length : Int)) = false := decide_eq_false (by omega)
  have HL20 := Aside0.mk (show l.length ≤ 20 by omega)
  clear hlen
  go_enter Try.func7, Try.ntmps7
  go_wp2_with (go_at_call 9; go_must (refine (awake13_any _).mono ?_; rintro e w1 ⟨rfl, hb⟩; clear HB; have HB := Aside0.mk hb; clear hb))
  go_loopg [3] l.length (fun gk v w' => ∃ i : Nat, v = .int .i64 (i : Int) ∧ i + gk = l.length ∧ Aside0 (∀ x ∈ l.take i, rightB x = true) ∧ Aside0 (Below w.heap.size w w'))
  case atStart => exact ⟨0, rfl, by omega, ⟨fun x hx => by simp at hx⟩, HB⟩
  case round =>
    clear HB
    obtain ⟨i, rfl, hi, HG, HB⟩ := hrel
    by_cases hlt : i < l.length
    · obtain ⟨ad, A, c, rfl, hcel, hcapx, hra⟩ := cel_row HR.out i hlt
      obtain ⟨x, hx⟩ : ∃ x, x = gdC l i := ⟨_, rfl⟩
      have htx : CelTy x := hx ▸ HT.out _ (gdC_mem hlt)
      rw [← hx] at hcel hcapx hra
      obtain ⟨c0, c1, c2, c3, c4, c5, c6, c7, c8, c9, c10⟩ := CelIn.below hcel HB.out
      have HRA := Aside0.mk hra
      have HTX := Aside0.mk htx
      have HTK := Aside0.mk (show l.take (i + 1) = l.take i ++ [x] by rw [List.take_succ_eq_append_getElem hlt, hx]; simp [gdC, hlt])
      have hmx' := C_max hra
      have hi0 : 0 ≤ (i : Int) := by omega
      have hi1 : (i : Int) < (l.length : Int) := by omega
      clear hcel hcapx hra htx hx
      cases hrx : rightB x with
      | false =>
        go_wp2_with (go_at_call 10; go_must (refine (refright_any x A c _ (Kd.C_below HRA.out HB.out) HTX.out.wf.2.2).mono ?_; rintro e y7 ⟨rfl, hb⟩; rw [hrx]; replace HB := Aside0.mk (HB.out.trans (hb.mono HB.out.size)); clear hb))
        go_ret
        exact ⟨rfl, HB.out⟩
      | true =>
        have HRX := Aside0.mk hrx
        go_wp2_with (go_at_call 10; go_must (refine (refright_any x A c _ (Kd.C_below HRA.out HB.out) HTX.out.wf.2.2).mono ?_; rintro e y7 ⟨rfl, hb⟩; rw [hrx]; replace HB := Aside0.mk (HB.out.trans (hb.mono HB.out.size)); clear hb))
        go_roundg (gk - 1)
        case measure => omega
        case rel => exact ⟨i + 1, by go_num, by omega, ⟨fun y hy => by
          rw [HTK.out] at hy
          rcases List.mem_append.1 hy with hy | hy
          · exact HG.out y hy
          · rw [List.mem_singleton] at hy; subst hy; exact HRX.out⟩, HB⟩
    · have HRT := Aside0.mk (show ∀ x ∈ l, rightB x = true by have := HG.out; rwa [List.take_of_length_le (by omega)] at this)
      clear HG
      have HFL := Aside0.mk (show FineL l from fun x hx => ⟨(HT.out x hx).wf, HRT.out x hx⟩)
      have hl20 := HL20.out
      obtain ⟨G, hG⟩ : ∃ G, G = groups l := ⟨_, rfl⟩
      have hgrp := groups_all l (fun x hx => by have := (encS_len x (HT.out x hx).wf (HRT.out x hx)).2.1; omega)
      have hbod := groups_bodies l
      have hnl := (fillP_lens (l.map encS)).1
      rw [← hG] at hgrp hbod
      rw [hbod, List.length_map, List.length_map] at hnl
      obtain ⟨I, hI⟩ : ∃ I, I = (fillP (l.map encS)).2 := ⟨_, rfl⟩
      rw [← hI] at hgrp
      have HGRP := Aside0.mk hgrp
      have HBOD := Aside0.mk hbod
      have HII := Aside0.mk hI
      clear hG hgrp hbod hI
      obtain ⟨nG, hnG⟩ : ∃ n, n = G.length := ⟨_, rfl⟩
      rw [← hnG] at hnl
      have HNG := Aside0.mk hnG
      have hgt : decide ((l.length : Int) < (nG : Int)) = false := decide_eq_false (by omega)
      have hgtN : ¬ l.length < nG := by omega
      clear hnG
      go_wp2_with (first
        | (go_at_call 11; go_must (refine (fill_any B0 l.length bc l _ (Kd.C_below HR.out HB.out) HT.out (by omega) HRT.out).mono ?_; rintro e y1 ⟨⟨va, vp, rfl, ha, hp⟩, hb⟩; rw [HBOD.out] at ha; rw [← HII.out] at hp; obtain ⟨Aa, ca, rfl⟩ := Kd.S_slice ha; obtain ⟨Ap, cp, rfl⟩ := Kd.R_slice hp; rw [List.length_map, ← HNG.out] at ha ⊢; rw [HGRP.out.len] at hp ⊢; have HA := Aside0.mk (Kd.S_reads' ha).2.2; have HP := Aside0.mk (Kd.R_reads' hp).2.2; rw [List.length_map, ← HNG.out] at HA; rw [HGRP.out.len] at HP; replace HB := Aside0.mk (HB.out.trans (hb.mono HB.out.size)); clear ha hp hb))
        | (go_at_call 15; go_must (refine (worst_nat l.length _).mono ?_; rintro e y5 ⟨rfl, rfl⟩)))
      have HB0 := HB
      replace HR := Aside0.mk (Kd.C_below HR.out HB.out)
      have hng20 : nG ≤ 20 := by omega
      clear HB hgt hnl
      clear hgtN
      have HB := Aside0.mk (Below.refl y1.heap.size y1)
      go_loopg [7, 8] nG (fun gk v7 v8 w' => ∃ (i : Nat), v8 = .int .i64 (i : Int) ∧ i + gk = nG ∧ Aside0 (OwC w' y1.heap.size v7 (G.take i).flatten) ∧ Aside0 (Below y1.heap.size y1 w'))
      case atStart => exact ⟨0, rfl, by omega, ⟨Kd.R_nil _ _ _ _ _⟩, HB⟩
      case round =>
        clear HB
        obtain ⟨i, rfl, hig, HALL, HB⟩ := hrel
        by_cases hlti : i < nG
        · have hiG : i < G.length := by have := HNG.out; omega
          obtain ⟨adB, Ai, ki, rfl, hcb, hki, hrb⟩ := C_row HA.out i hlti
          have hrb' : Kd.C (Kd.int .u8) y1 Ai (encAll (nthG G i)).length (encAll (nthG G i)) := by have := hrb; rw [nthG_map] at this; exact this
          rw [nthG_map] at hcb hki
          have hmem : nthG G i ∈ G := by
            have : nthG G i = G[i] := by simp [nthG, hiG]
            rw [this]; exact List.getElem_mem hiG
          have hlg : (encAll (nthG G i)).length ≤ 103 := HGRP.out.fits _ hmem
          have hgne := HGRP.out.full _ hmem
          have HSUB := Aside0.mk (show ∀ k, k < (nthG G i).length → (G.take i).flatten.length + k < l.length from fun k hk => by have := flatten_take_lt hiG hk; rw [HGRP.out.flat] at this; exact this)
          have HNUM := Aside0.mk (HGRP.out.at_ i hiG)
          have HTF := Aside0.mk (take_flat hiG)
          have HNEXT := Aside0.mk (show ∀ K, i = K + 1 → ∀ x, (nthG G i)[0]? = some x → 103 < (encAll (nthG G K)).length + (encS x).length from fun K hK x hx => by subst hK; exact HGRP.out.next K hiG x hx)
          have hgm : ∀ x ∈ nthG G i, x ∈ l := fun x hx => by rw [← HGRP.out.flat]; exact List.mem_flatten.2 ⟨_, hmem, hx⟩
          obtain ⟨g, hg⟩ : ∃ g, g = nthG G i := ⟨_, rfl⟩
          rw [← hg] at hrb' hcb hki hlg hgne HSUB HNUM HTF HNEXT hgm
          have HFG := Aside0.mk (show FineL g from fun x hx => HFL.out x (hgm x hx))
          have HOO := Aside0.mk (openR_all HFG.out hlg)
          have HBY := Aside0.mk (show Byt (encAll g) from encAll_byt (fun x hx => (HFG.out x hx).1.2.2))
          obtain ⟨lb, hlb⟩ : ∃ n, n = (encAll g).length := ⟨_, rfl⟩
          obtain ⟨n3, hn3⟩ : ∃ n, n = g.length := ⟨_, rfl⟩
          rw [← hlb] at hrb' hcb hki hlg
          have HN3 := Aside0.mk hn3
          have hn3p : 0 < n3 := by rw [hn3]; exact List.length_pos_iff.2 hgne
          have HRB := Aside0.mk hrb'
          have HCB := Aside0.mk hcb
          have HKI := Aside0.mk hki
          have hcb1 := pw_cell_below HB.out hcb
          have hi0 : (0 : Int) ≤ (i : Int) := by omega
          have hi1 : (i : Int) < (nG : Int) := by omega
          clear hrb hrb' hcb hki hgne hgm hg hlb hn3 hmem hiG
          go_upto_region 18 with (go_at_call 16; go_must (refine (open_any Ai lb ki (encAll g) _ (Kd.C_below HRB.out HB.out) HKI.out HBY.out).mono ?_; rintro e y2 ⟨⟨h1, _⟩, hb⟩; obtain ⟨v3, rfl, hc⟩ := h1 _ HOO.out; obtain ⟨A3, c3, rfl⟩ := Kd.R_slice hc; rw [← HN3.out] at hc ⊢; obtain ⟨ad3, rfl, _⟩ := (Kd.R_reads' hc).2.2.2.2 (by rw [← HN3.out]; exact hn3p); have HAP := Aside0.mk (all_apart HALL.out hc); have HCL := Aside0.mk (cells_of hc HB.out.size); replace HALL := Aside0.mk (Kd.R_below HALL.out hb); replace HB := Aside0.mk (HB.out.trans (hb.mono HB.out.size)); clear hb hc h1))
          clear hcb1
          have hn320 : n3 ≤ 20 := by have := HSUB.out (n3 - 1) (by rw [← HN3.out]; omega); omega
          have f5 : ((n3 : Int) == 0) = false := beq_eq_false_iff_ne.2 (by omega)
          have f13 : decide (103 < (lb : Int)) = false := decide_eq_false (by omega)
          rcases Nat.eq_zero_or_pos i with hiz | hip
          · have f17 : decide (0 < (i : Int)) = false := decide_eq_false (by omega)
            have HIZ := Aside0.mk hiz
            clear hiz
            refine start_ (n := 33) (S := fun w' => w'.cell? (adB.add i) = some (.slice Ai lb ki)) (ds := []) #[false, false, false, false, false, false, false, false, false, false, false, false, false, false, false, false, false, false, false, false, false, false, false, false, false, false, false, false, false, false, false, false, false] (by kernel_rfl) rfl rfl (pw_cell_below (below_drew HB.out) HCB.out) (fun hHeld => ?_); refine with_tab tabPa18_ok (fun HT_ => ?_)
            have hb : Below y2.heap.size y2 y2.drew := below_drew (Below.refl _ _)
            replace HALL := Aside0.mk (Kd.R_below HALL.out hb); replace HCL := Aside0.mk (HCL.out.below hb); replace HB := Aside0.mk (HB.out.trans (hb.mono HB.out.size))
            clear hb
            refine pure_ (i := 0) (N := some 66) (v := ?_) (a' := ?_) #[true, false, false, false, false, false, false, false, false, false, false, false, false, false, false, false, false, false, false, false, false, false, false, false, false, false, false, false, false, false, false, false, false] rfl rfl (any_of HT_.out (by kernel_rfl)) (fun _ _ _ h => h) (Or.inl ⟨by rfl, ?_⟩) ?_ ?_
            rotate_left
            · intro w'
              go_simp
              with_reducible rfl
            rotate_left
            · simp only [Act.put, List.setIfInBounds_toArray, List.set_cons_zero, List.set_cons_succ]
              rfl
            refine pure_ (i := 1) (N := some 67) (v := ?_) (a' := ?_) #[true, true, false, false, false, false, false, false, false, false, false, false, false, false, false, false, false, false, false, false, false, false, false, false, false, false, false, false, false, false, false, false, false] rfl rfl (any_of HT_.out (by kernel_rfl)) (fun _ _ _ h => h) (Or.inl ⟨by rfl, ?_⟩) ?_ ?_
            rotate_left
            · intro w'
              go_simp
              with_reducible rfl
            rotate_left
            · simp only [Act.put, List.setIfInBounds_toArray, List.set_cons_zero, List.set_cons_succ]
              rfl
            refine pure_ (i := 2) (N := some 68) (v := ?_) (a' := ?_) #[true, true, true, false, false, false, false, false, false, false, false, false, false, false, false, false, false, false, false, false, false, false, false, false, false, false, false, false, false, false, false, false, false] rfl rfl (any_of HT_.out (by kernel_rfl)) (fun _ _ _ h => h) (Or.inl ⟨by rfl, ?_⟩) ?_ ?_
            rotate_left
            · intro w'
              go_simp
              with_reducible rfl
            rotate_left
            · simp only [Act.put, List.setIfInBounds_toArray, List.set_cons_zero, List.set_cons_succ]
              rfl
            refine pure_ (i := 3) (N := some 69) (v := ?_) (a' := ?_) #[true, true, true, true, false, false, false, false, false, false, false, false, false, false, false, false, false, false, false, false, false, false, false, false, false, false, false, false, false, false, false, false, false] rfl rfl (any_of HT_.out (by kernel_rfl)) (fun _ _ _ h => h) (Or.inl ⟨by rfl, ?_⟩) ?_ ?_
            rotate_left
            · intro w'
              go_simp
              with_reducible rfl
            rotate_left
            · simp only [Act.put, List.setIfInBounds_toArray, List.set_cons_zero, List.set_cons_succ]
              rfl
            refine pure_ (i := 4) (N := some 70) (v := ?_) (a' := ?_) #[true, true, true, true, true, false, false, false, false, false, false, false, false, false, false, false, false, false, false, false, false, false, false, false, false, false, false, false, false, false, false, false, false] rfl rfl (any_of HT_.out (by kernel_rfl)) (fun _ _ _ h => h) (Or.inl ⟨by rfl, ?_⟩) ?_ ?_
            rotate_left
            · intro w'
              go_simp
              with_reducible rfl
            rotate_left
            · simp only [Act.put, List.setIfInBounds_toArray, List.set_cons_zero, List.set_cons_succ]
              rfl
            refine pure_ (i := 5) (N := some 71) (v := (.bool false)) (a' := ?_) #[true, true, true, true, true, true, false, false, false, false, false, false, false, false, false, false, false, false, false, false, false, false, false, false, false, false, false, false, false, false, false, false, false] rfl rfl (any_of HT_.out (by kernel_rfl)) (fun _ _ _ h => h) (Or.inl ⟨by rfl, ?_⟩) ?_ ?_
            · intro w'
              go_simp
              first | done | exact f5 | exact HIZ.out | omega | (simp [f5]; done) | trace_state
            rotate_left
            · simp only [Act.put, List.setIfInBounds_toArray, List.set_cons_zero, List.set_cons_succ]
              rfl
            refine pure_ (i := 6) (N := some 72) (v := ?_) (a' := ?_) #[true, true, true, true, true, true, true, false, false, false, false, false, false, false, false, false, false, false, false, false, false, false, false, false, false, false, false, false, false, false, false, false, false] rfl rfl (any_of HT_.out (by kernel_rfl)) (fun _ _ _ h => h) (Or.inl ⟨by rfl, ?_⟩) ?_ ?_
            rotate_left
            · intro w'
              go_simp
              with_reducible rfl
            rotate_left
            · simp only [Act.put, List.setIfInBounds_toArray, List.set_cons_zero, List.set_cons_succ]
              rfl
            refine pure_ (i := 7) (N := some 73) (v := ?_) (a' := ?_) #[true, true, true, true, true, true, true, true, false, false, false, false, false, false, false, false, false, false, false, false, false, false, false, false, false, false, false, false, false, false, false, false, false] rfl rfl (any_of HT_.out (by kernel_rfl)) (fun _ _ _ h => h) (Or.inl ⟨by rfl, ?_⟩) ?_ ?_
            rotate_left
            · intro w'
              go_simp
              with_reducible rfl
            rotate_left
            · simp only [Act.put, List.setIfInBounds_toArray, List.set_cons_zero, List.set_cons_succ]
              rfl
            refine pure_ (i := 8) (N := some 74) (v := ?_) (a' := ?_) #[true, true, true, true, true, true, true, true, true, false, false, false, false, false, false, false, false, false, false, false, false, false, false, false, false, false, false, false, false, false, false, false, false] rfl rfl (any_of HT_.out (by kernel_rfl)) (fun _ _ _ h => h) (Or.inl ⟨by rfl, ?_⟩) ?_ ?_
            rotate_left
            · intro w'
              go_simp
              with_reducible rfl
            rotate_left
            · simp only [Act.put, List.setIfInBounds_toArray, List.set_cons_zero, List.set_cons_succ]
              rfl
            refine pure_ (i := 9) (N := some 75) (v := ?_) (a' := ?_) #[true, true, true, true, true, true, true, true, true, true, false, false, false, false, false, false, false, false, false, false, false, false, false, false, false, false, false, false, false, false, false, false, false] rfl rfl (any_of HT_.out (by kernel_rfl)) (fun _ _ _ h => h) (Or.inl ⟨by rfl, ?_⟩) ?_ ?_
            rotate_left
            · intro w'
              go_simp
              with_reducible rfl
            rotate_left
            · simp only [Act.put, List.setIfInBounds_toArray, List.set_cons_zero, List.set_cons_succ]
              rfl
            refine pure_ (i := 10) (N := some 76) (v := ?_) (a' := ?_) #[true, true, true, true, true, true, true, true, true, true, true, false, false, false, false, false, false, false, false, false, false, false, false, false, false, false, false, false, false, false, false, false, false] rfl rfl (any_of HT_.out (by kernel_rfl)) (fun _ _ _ h => h) (Or.inl ⟨by rfl, ?_⟩) ?_ ?_
            rotate_left
            · intro w'
              go_simp
              with_reducible rfl
            rotate_left
            · simp only [Act.put, List.setIfInBounds_toArray, List.set_cons_zero, List.set_cons_succ]
              rfl
            refine take_ (i := 11) (N := some 77) (v := ?_) (a' := ?_) #[true, true, true, true, true, true, true, true, true, true, true, true, false, false, false, false, false, false, false, false, false, false, false, false, false, false, false, false, false, false, false, false, false] rfl rfl (take_of HT_.out (by kernel_rfl)) (fun _ _ _ h => h) (Or.inl ⟨by rfl, ?_⟩) hHeld ?_ ?_
            rotate_left
            · intro w' hw'
              skip
              go_simp
              with_reducible rfl
            rotate_left
            · simp only [Act.put, List.setIfInBounds_toArray, List.set_cons_zero, List.set_cons_succ]
              rfl
            refine pure_ (i := 12) (N := some 78) (v := ?_) (a' := ?_) #[true, true, true, true, true, true, true, true, true, true, true, true, true, false, false, false, false, false, false, false, false, false, false, false, false, false, false, false, false, false, false, false, false] rfl rfl (any_of HT_.out (by kernel_rfl)) (fun _ _ _ h => h) (Or.inl ⟨by rfl, ?_⟩) ?_ ?_
            rotate_left
            · intro w'
              go_simp
              with_reducible rfl
            rotate_left
            · simp only [Act.put, List.setIfInBounds_toArray, List.set_cons_zero, List.set_cons_succ]
              rfl
            refine pure_ (i := 13) (N := some 79) (v := (.bool false)) (a' := ?_) #[true, true, true, true, true, true, true, true, true, true, true, true, true, true, false, false, false, false, false, false, false, false, false, false, false, false, false, false, false, false, false, false, false] rfl rfl (any_of HT_.out (by kernel_rfl)) (fun _ _ _ h => h) (Or.inl ⟨by rfl, ?_⟩) ?_ ?_
            · intro w'
              go_simp
              first | done | exact f13 | exact HIZ.out | omega | (simp [f13]; done) | trace_state
            rotate_left
            · simp only [Act.put, List.setIfInBounds_toArray, List.set_cons_zero, List.set_cons_succ]
              rfl
            refine pure_ (i := 14) (N := some 80) (v := ?_) (a' := ?_) #[true, true, true, true, true, true, true, true, true, true, true, true, true, true, true, false, false, false, false, false, false, false, false, false, false, false, false, false, false, false, false, false, false] rfl rfl (any_of HT_.out (by kernel_rfl)) (fun _ _ _ h => h) (Or.inl ⟨by rfl, ?_⟩) ?_ ?_
            rotate_left
            · intro w'
              go_simp
              with_reducible rfl
            rotate_left
            · simp only [Act.put, List.setIfInBounds_toArray, List.set_cons_zero, List.set_cons_succ]
              rfl
            refine pure_ (i := 15) (N := some 81) (v := ?_) (a' := ?_) #[true, true, true, true, true, true, true, true, true, true, true, true, true, true, true, true, false, false, false, false, false, false, false, false, false, false, false, false, false, false, false, false, false] rfl rfl (any_of HT_.out (by kernel_rfl)) (fun _ _ _ h => h) (Or.inl ⟨by rfl, ?_⟩) ?_ ?_
            rotate_left
            · intro w'
              go_simp
              with_reducible rfl
            rotate_left
            · simp only [Act.put, List.setIfInBounds_toArray, List.set_cons_zero, List.set_cons_succ]
              rfl
            refine pure_ (i := 16) (N := some 82) (v := ?_) (a' := ?_) #[true, true, true, true, true, true, true, true, true, true, true, true, true, true, true, true, true, false, false, false, false, false, false, false, false, false, false, false, false, false, false, false, false] rfl rfl (any_of HT_.out (by kernel_rfl)) (fun _ _ _ h => h) (Or.inl ⟨by rfl, ?_⟩) ?_ ?_
            rotate_left
            · intro w'
              go_simp
              with_reducible rfl
            rotate_left
            · simp only [Act.put, List.setIfInBounds_toArray, List.set_cons_zero, List.set_cons_succ]
              rfl
            refine pure_ (i := 17) (N := some 83) (v := (.bool false)) (a' := ?_) #[true, true, true, true, true, true, true, true, true, true, true, true, true, true, true, true, true, true, false, false, false, false, false, false, false, false, false, false, false, false, false, false, false] rfl rfl (any_of HT_.out (by kernel_rfl)) (fun _ _ _ h => h) (Or.inl ⟨by rfl, ?_⟩) ?_ ?_
            · intro w'
              go_simp
              first | done | exact f17 | exact HIZ.out | omega | (simp [f17]; done) | trace_state
            rotate_left
            · simp only [Act.put, List.setIfInBounds_toArray, List.set_cons_zero, List.set_cons_succ]
              rfl
            refine pure_ (i := 18) (N := some 84) (v := ?_) (a' := ?_) #[true, true, true, true, true, true, true, true, true, true, true, true, true, true, true, true, true, true, true, false, false, false, false, false, false, false, false, false, false, false, false, false, false] rfl rfl (any_of HT_.out (by kernel_rfl)) (fun _ _ _ h => h) (Or.inl ⟨by rfl, ?_⟩) ?_ ?_
            rotate_left
            · intro w'
              go_simp
              with_reducible rfl
            rotate_left
            · simp only [Act.put, List.setIfInBounds_toArray, List.set_cons_zero, List.set_cons_succ]
              rfl
            refine pure_ (i := 19) (N := some 85) (v := undef) (a' := ?_) #[true, true, true, true, true, true, true, true, true, true, true, true, true, true, true, true, true, true, true, true, false, false, false, false, false, false, false, false, false, false, false, false, false] rfl rfl (any_of HT_.out (by kernel_rfl)) (fun _ _ _ h => h) (Or.inr ⟨by rfl, rfl⟩) ?_ ?_
            rotate_left
            · simp only [Act.put, List.setIfInBounds_toArray, List.set_cons_zero, List.set_cons_succ]
              rfl
            refine pure_ (i := 20) (N := some 86) (v := undef) (a' := ?_) #[true, true, true, true, true, true, true, true, true, true, true, true, true, true, true, true, true, true, true, true, true, false, false, false, false, false, false, false, false, false, false, false, false] rfl rfl (any_of HT_.out (by kernel_rfl)) (fun _ _ _ h => h) (Or.inr ⟨by rfl, rfl⟩) ?_ ?_
            rotate_left
            · simp only [Act.put, List.setIfInBounds_toArray, List.set_cons_zero, List.set_cons_succ]
              rfl
            refine pure_ (i := 21) (N := some 87) (v := undef) (a' := ?_) #[true, true, true, true, true, true, true, true, true, true, true, true, true, true, true, true, true, true, true, true, true, true, false, false, false, false, false, false, false, false, false, false, false] rfl rfl (any_of HT_.out (by kernel_rfl)) (fun _ _ _ h => h) (Or.inr ⟨by rfl, rfl⟩) ?_ ?_
            rotate_left
            · simp only [Act.put, List.setIfInBounds_toArray, List.set_cons_zero, List.set_cons_succ]
              rfl
            refine pure_ (i := 22) (N := some 88) (v := undef) (a' := ?_) #[true, true, true, true, true, true, true, true, true, true, true, true, true, true, true, true, true, true, true, true, true, true, true, false, false, false, false, false, false, false, false, false, false] rfl rfl (any_of HT_.out (by kernel_rfl)) (fun _ _ _ h => h) (Or.inr ⟨by rfl, rfl⟩) ?_ ?_
            rotate_left
            · simp only [Act.put, List.setIfInBounds_toArray, List.set_cons_zero, List.set_cons_succ]
              rfl
            refine pure_ (i := 23) (N := some 89) (v := undef) (a' := ?_) #[true, true, true, true, true, true, true, true, true, true, true, true, true, true, true, true, true, true, true, true, true, true, true, true, false, false, false, false, false, false, false, false, false] rfl rfl (any_of HT_.out (by kernel_rfl)) (fun _ _ _ h => h) (Or.inr ⟨by rfl, rfl⟩) ?_ ?_
            rotate_left
            · simp only [Act.put, List.setIfInBounds_toArray, List.set_cons_zero, List.set_cons_succ]
              rfl
            refine pure_ (i := 24) (N := some 90) (v := undef) (a' := ?_) #[true, true, true, true, true, true, true, true, true, true, true, true, true, true, true, true, true, true, true, true, true, true, true, true, true, false, false, false, false, false, false, false, false] rfl rfl (any_of HT_.out (by kernel_rfl)) (fun _ _ _ h => h) (Or.inr ⟨by rfl, rfl⟩) ?_ ?_
            rotate_left
            · simp only [Act.put, List.setIfInBounds_toArray, List.set_cons_zero, List.set_cons_succ]
              rfl
            refine pure_ (i := 25) (N := some 91) (v := undef) (a' := ?_) #[true, true, true, true, true, true, true, true, true, true, true, true, true, true, true, true, true, true, true, true, true, true, true, true, true, true, false, false, false, false, false, false, false] rfl rfl (any_of HT_.out (by kernel_rfl)) (fun _ _ _ h => h) (Or.inr ⟨by rfl, rfl⟩) ?_ ?_
            rotate_left
            · simp only [Act.put, List.setIfInBounds_toArray, List.set_cons_zero, List.set_cons_succ]
              rfl
            refine pure_ (i := 26) (N := some 92) (v := undef) (a' := ?_) #[true, true, true, true, true, true, true, true, true, true, true, true, true, true, true, true, true, true, true, true, true, true, true, true, true, true, true, false, false, false, false, false, false] rfl rfl (any_of HT_.out (by kernel_rfl)) (fun _ _ _ h => h) (Or.inr ⟨by rfl, rfl⟩) ?_ ?_
            rotate_left
            · simp only [Act.put, List.setIfInBounds_toArray, List.set_cons_zero, List.set_cons_succ]
              rfl
            refine pure_ (i := 27) (N := some 93) (v := undef) (a' := ?_) #[true, true, true, true, true, true, true, true, true, true, true, true, true, true, true, true, true, true, true, true, true, true, true, true, true, true, true, true, false, false, false, false, false] rfl rfl (any_of HT_.out (by kernel_rfl)) (fun _ _ _ h => h) (Or.inr ⟨by rfl, rfl⟩) ?_ ?_
            rotate_left
            · simp only [Act.put, List.setIfInBounds_toArray, List.set_cons_zero, List.set_cons_succ]
              rfl
            refine pure_ (i := 28) (N := some 94) (v := undef) (a' := ?_) #[true, true, true, true, true, true, true, true, true, true, true, true, true, true, true, true, true, true, true, true, true, true, true, true, true, true, true, true, true, false, false, false, false] rfl rfl (any_of HT_.out (by kernel_rfl)) (fun _ _ _ h => h) (Or.inr ⟨by rfl, rfl⟩) ?_ ?_
            rotate_left
            · simp only [Act.put, List.setIfInBounds_toArray, List.set_cons_zero, List.set_cons_succ]
              rfl
            refine pure_ (i := 29) (N := some 95) (v := undef) (a' := ?_) #[true, true, true, true, true, true, true, true, true, true, true, true, true, true, true, true, true, true, true, true, true, true, true, true, true, true, true, true, true, true, false, false, false] rfl rfl (any_of HT_.out (by kernel_rfl)) (fun _ _ _ h => h) (Or.inr ⟨by rfl, rfl⟩) ?_ ?_
            rotate_left
            · simp only [Act.put, List.setIfInBounds_toArray, List.set_cons_zero, List.set_cons_succ]
              rfl
            refine pure_ (i := 30) (N := some 96) (v := undef) (a' := ?_) #[true, true, true, true, true, true, true, true, true, true, true, true, true, true, true, true, true, true, true, true, true, true, true, true, true, true, true, true, true, true, true, false, false] rfl rfl (any_of HT_.out (by kernel_rfl)) (fun _ _ _ h => h) (Or.inr ⟨by rfl, rfl⟩) ?_ ?_
            rotate_left
            · simp only [Act.put, List.setIfInBounds_toArray, List.set_cons_zero, List.set_cons_succ]
              rfl
            refine pure_ (i := 31) (N := some 97) (v := ?_) (a' := ?_) #[true, true, true, true, true, true, true, true, true, true, true, true, true, true, true, true, true, true, true, true, true, true, true, true, true, true, true, true, true, true, true, true, false] rfl rfl (any_of HT_.out (by kernel_rfl)) (fun _ _ _ h => h) (Or.inl ⟨by rfl, ?_⟩) ?_ ?_
            rotate_left
            · intro w'
              go_simp
              with_reducible rfl
            rotate_left
            · simp only [Act.put, List.setIfInBounds_toArray, List.set_cons_zero, List.set_cons_succ]
              rfl
            refine pure_ (i := 32) (N := some 98) (v := ?_) (a' := ?_) #[true, true, true, true, true, true, true, true, true, true, true, true, true, true, true, true, true, true, true, true, true, true, true, true, true, true, true, true, true, true, true, true, true] rfl rfl (any_of HT_.out (by kernel_rfl)) (fun _ _ _ h => h) (Or.inl ⟨by rfl, ?_⟩) ?_ ?_
            rotate_left
            · intro w'
              go_simp
              with_reducible rfl
            rotate_left
            · simp only [Act.put, List.setIfInBounds_toArray, List.set_cons_zero, List.set_cons_succ]
              rfl
            refine done_ (done_of HT_.out (by kernel_rfl)) ?_
            clear HT_ hHeld f17
            go_wp2
            obtain ⟨gkm, rfl⟩ : ∃ gkm : Nat, gkm = gk := ⟨_, rfl⟩
            go_loopg [7, 11] n3 (fun gk v7 v11 w' => ∃ (k : Nat), v11 = .int .i64 (k : Int) ∧ k + gk = n3 ∧ Aside0 (OwC w' y1.heap.size v7 ((G.take i).flatten ++ g.take k)) ∧ Aside0 (Cells w' y1.heap.size ad3 g n3) ∧ Aside0 (some ad3.block ≠ v7.ownBlock) ∧ Aside0 (Below y1.heap.size y1 w'))
            case atStart => exact ⟨0, rfl, by omega, ⟨by simpa using HALL.out⟩, HCL, HAP, HB⟩
            case round =>
              clear HB HALL HCL HAP
              obtain ⟨k, rfl, hkg, HALL, HCL, HAP, HB⟩ := hrel
              by_cases hltk : k < n3
              · obtain ⟨A7, c7, rfl⟩ := Kd.R_slice HALL.out
                obtain ⟨na, hna⟩ : ∃ n, n = ((G.take i).flatten ++ g.take k).length := ⟨_, rfl⟩
                rw [← hna] at HALL HAP ⊢
                have hna2 : na = (G.take i).flatten.length + k := by rw [hna, List.length_append, List.length_take]; have := HN3.out; omega
                have hnal : na < l.length := by rw [hna2]; exact HSUB.out k (by rw [← HN3.out]; exact hltk)
                obtain ⟨ap, hap, hcp⟩ := C_at HP.out na hnal
                subst hap
                rw [hna2, HNUM.out k (by rw [← HN3.out]; exact hltk), ← hna2] at hcp
                have hcp1 := pw_cell_below HB.out hcp
                obtain ⟨A5, k5, hc5, hM5⟩ := HCL.out.at_ k hltk
                obtain ⟨x, hx⟩ : ∃ x, x = gdC g k := ⟨_, rfl⟩
                rw [← hx] at hc5 hM5
                obtain ⟨c0, c1, c2, c3, c4, c5, c6, c7', c8, c9, c10⟩ := hc5
                have HM5 := Aside0.mk hM5
                have HNA := Aside0.mk hna
                have HNL := Aside0.mk hnal
                have HTK := Aside0.mk (show g.take (k + 1) = g.take k ++ [x] by rw [List.take_succ_eq_append_getElem (by rw [← HN3.out]; exact hltk), hx]; simp [gdC, show k < g.length by rw [← HN3.out]; exact hltk])
                have d1 : ¬ (na : Int) ≥ (l.length : Int) := by omega
                have d2 : (0 : Int) ≤ (na : Int) := by omega
                have d3 : (na : Int) < (l.length : Int) := by omega
                have d4 : (0 : Int) ≤ (k : Int) := by omega
                have d5 : (k : Int) < (n3 : Int) := by omega
                clear hna hna2 hnal hcp hM5 hx
                go_wp2_with ((with_reducible refine gate_builtin (b := .append) (xs := #[.tmp 119, .tmp 124]) rfl ?_); at_builtin; go_must (refine Kd.R_append CelD (w0 := y1) y1.heap.size rfl (.tmp 119) (.tmp 124) 22 30 (.agg (celA cel0 none 0)) 104 rfl Try.underlying22 infoCelO rfl (by decide) (by omega) _ ((G.take i).flatten ++ g.take k) x (celA x A5 k5).toList (fun _ => True) _ rfl rfl (CelD.M_bound HM5.out) (fun k hk => ⟨trivial, (by obtain ⟨_, _, _, q, hq, cells, hc⟩ := hk; have := celE_u8 hq; subst this; exact Kd.R_ne HALL.out hc (by decide))⟩) (fun _ _ => trivial) HALL.out HB.out HB.out.size (by have := HNA.out; have := HNL.out; omega) ?_; intro v9 w9 ho hb hg hat; have HCL2 := Aside0.mk (HCL.out.over HALL.out hg HAP.out); have HAP2 := Aside0.mk (apart_on HAP.out HCL.out.lt hat); clear HALL HB; have HALL := Aside0.mk ho; have HB := Aside0.mk hb; clear ho hb hg hat))
                go_roundg (gk - 1)
                case measure => omega
                case rel => exact ⟨k + 1, by go_num, by omega, ⟨by rw [HTK.out, ← List.append_assoc]; exact HALL.out⟩, HCL2, HAP2, HB⟩
              · have HKE := Aside0.mk (show g.take k = g from List.take_of_length_le (by rw [← HN3.out]; omega))
                go_wp2
                go_roundg (gkm - 1)
                case measure => omega
                case rel => exact ⟨i + 1, by go_num, by omega, ⟨by rw [HTF.out]; have := HALL.out; rw [HKE.out] at this; exact this⟩, HB⟩
          · obtain ⟨K, hK⟩ : ∃ K, i = K + 1 := ⟨i - 1, by omega⟩
            obtain ⟨adB', AK, kK, he, hck, _, _⟩ := C_row HA.out K (by omega)
            injection he with he
            subst he
            rw [nthG_map] at hck
            obtain ⟨A5, k5, hc5, hM5⟩ := HCL.out.at_ 0 hn3p
            rw [add_zeroA ad3] at hc5
            obtain ⟨A6, k6, he6, hl6, hr6⟩ := celD_open (CelD.K_of_M hM5)
            rw [(celA_inj he6).1] at hr6
            have hgx : g[0]? = some (gdC g 0) := by rw [List.getElem?_eq_getElem (by rw [← HN3.out]; exact hn3p)]; simp [gdC, show 0 < g.length by rw [← HN3.out]; exact hn3p]
            have hnx := HNEXT.out K hK _ hgx
            have hxf : CelWf (gdC g 0) ∧ rightB (gdC g 0) = true := HFG.out _ (List.mem_of_getElem? hgx)
            obtain ⟨x, hx⟩ : ∃ x, x = gdC g 0 := ⟨_, rfl⟩
            rw [← hx] at hc5 hr6 hnx hxf
            obtain ⟨z, hz⟩ : ∃ z, z = (encS x).length := ⟨_, rfl⟩
            obtain ⟨lK, hlK⟩ : ∃ z, z = (encAll (nthG G K)).length := ⟨_, rfl⟩
            rw [← hz, ← hlK] at hnx
            rw [← hlK] at hck
            have hz46 : z ≤ 46 := by rw [hz]; exact (encS_len x hxf.1 hxf.2).2.1
            have hlK3 : lK ≤ 103 := by
              rw [hlK]
              refine HGRP.out.fits _ ?_
              have hq : K < G.length := by have := HNG.out; omega
              have : nthG G K = G[K] := by simp [nthG, hq]
              rw [this]; exact List.getElem_mem hq
            have HZ5 := Aside0.mk (show ((encR x).1.length : Int) = (z : Int) by rw [encR, if_pos hxf.2, hz])
            have HX5 := Aside0.mk hxf
            have HC5 := Aside0.mk hc5
            have HR5 := Aside0.mk hr6
            have HCK := Aside0.mk hck
            have f17 : decide (0 < (i : Int)) = true := decide_eq_true (by omega)
            have f30 : decide ((lK : Int) + (z : Int) ≤ 103) = false := decide_eq_false (by omega)
            have e1 : (i : Int) - 1 = (K : Int) := by omega
            have e2 : IntKind.i64.wrap (K : Int) = (K : Int) := IntWalk.i64_in _ (by omega)
            have e3 : IntKind.i64.wrap ((lK : Int) + (z : Int)) = (lK : Int) + (z : Int) := IntWalk.i64_in _ (by omega)
            have hK0 : (0 : Int) ≤ (K : Int) := by omega
            have hK1 : (K : Int) < (nG : Int) := by omega
            have hn30 : (0 : Int) < (n3 : Int) := by omega
            have HIZ := Aside0.mk hip
            clear hck hc5 hM5 he6 hl6 hr6 hgx hnx hxf hx hz hlK hK hip
            refine start_ (n := 33) (S := fun w' => w'.cell? (adB.add i) = some (.slice Ai lb ki) ∧ w'.cell? (adB.add K) = some (.slice AK lK kK) ∧ CelIn w' ad3 x A5 k5) (ds := []) #[false, false, false, false, false, false, false, false, false, false, false, false, false, false, false, false, false, false, false, false, false, false, false, false, false, false, false, false, false, false, false, false, false] (by kernel_rfl) rfl rfl ⟨pw_cell_below (below_drew HB.out) HCB.out, pw_cell_below (below_drew HB.out) HCK.out, CelIn.below HC5.out (below_drew (Below.refl _ _))⟩ (fun hHeld => ?_); refine with_tab tabPa18_ok (fun HT_ => ?_)
            have hb : Below y2.heap.size y2 y2.drew := below_drew (Below.refl _ _)
            replace HALL := Aside0.mk (Kd.R_below HALL.out hb); replace HCL := Aside0.mk (HCL.out.below hb); replace HB := Aside0.mk (HB.out.trans (hb.mono HB.out.size))
            clear hb
            refine pure_ (i := 0) (N := some 66) (v := ?_) (a' := ?_) #[true, false, false, false, false, false, false, false, false, false, false, false, false, false, false, false, false, false, false, false, false, false, false, false, false, false, false, false, false, false, false, false, false] rfl rfl (any_of HT_.out (by kernel_rfl)) (fun _ _ _ h => h) (Or.inl ⟨by rfl, ?_⟩) ?_ ?_
            rotate_left
            · intro w'
              go_simp
              with_reducible rfl
            rotate_left
            · simp only [Act.put, List.setIfInBounds_toArray, List.set_cons_zero, List.set_cons_succ]
              rfl
            refine pure_ (i := 1) (N := some 67) (v := ?_) (a' := ?_) #[true, true, false, false, false, false, false, false, false, false, false, false, false, false, false, false, false, false, false, false, false, false, false, false, false, false, false, false, false, false, false, false, false] rfl rfl (any_of HT_.out (by kernel_rfl)) (fun _ _ _ h => h) (Or.inl ⟨by rfl, ?_⟩) ?_ ?_
            rotate_left
            · intro w'
              go_simp
              with_reducible rfl
            rotate_left
            · simp only [Act.put, List.setIfInBounds_toArray, List.set_cons_zero, List.set_cons_succ]
              rfl
            refine pure_ (i := 2) (N := some 68) (v := ?_) (a' := ?_) #[true, true, true, false, false, false, false, false, false, false, false, false, false, false, false, false, false, false, false, false, false, false, false, false, false, false, false, false, false, false, false, false, false] rfl rfl (any_of HT_.out (by kernel_rfl)) (fun _ _ _ h => h) (Or.inl ⟨by rfl, ?_⟩) ?_ ?_
            rotate_left
            · intro w'
              go_simp
              with_reducible rfl
            rotate_left
            · simp only [Act.put, List.setIfInBounds_toArray, List.set_cons_zero, List.set_cons_succ]
              rfl
            refine pure_ (i := 3) (N := some 69) (v := ?_) (a' := ?_) #[true, true, true, true, false, false, false, false, false, false, false, false, false, false, false, false, false, false, false, false, false, false, false, false, false, false, false, false, false, false, false, false, false] rfl rfl (any_of HT_.out (by kernel_rfl)) (fun _ _ _ h => h) (Or.inl ⟨by rfl, ?_⟩) ?_ ?_
            rotate_left
            · intro w'
              go_simp
              with_reducible rfl
            rotate_left
            · simp only [Act.put, List.setIfInBounds_toArray, List.set_cons_zero, List.set_cons_succ]
              rfl
            refine pure_ (i := 4) (N := some 70) (v := ?_) (a' := ?_) #[true, true, true, true, true, false, false, false, false, false, false, false, false, false, false, false, false, false, false, false, false, false, false, false, false, false, false, false, false, false, false, false, false] rfl rfl (any_of HT_.out (by kernel_rfl)) (fun _ _ _ h => h) (Or.inl ⟨by rfl, ?_⟩) ?_ ?_
            rotate_left
            · intro w'
              go_simp
              with_reducible rfl
            rotate_left
            · simp only [Act.put, List.setIfInBounds_toArray, List.set_cons_zero, List.set_cons_succ]
              rfl
            refine pure_ (i := 5) (N := some 71) (v := (.bool false)) (a' := ?_) #[true, true, true, true, true, true, false, false, false, false, false, false, false, false, false, false, false, false, false, false, false, false, false, false, false, false, false, false, false, false, false, false, false] rfl rfl (any_of HT_.out (by kernel_rfl)) (fun _ _ _ h => h) (Or.inl ⟨by rfl, ?_⟩) ?_ ?_
            · intro w'
              go_simp
              first | done | exact f5 | exact HIZ.out | omega | (simp [f5]; done) | trace_state
            rotate_left
            · simp only [Act.put, List.setIfInBounds_toArray, List.set_cons_zero, List.set_cons_succ]
              rfl
            refine pure_ (i := 6) (N := some 72) (v := ?_) (a' := ?_) #[true, true, true, true, true, true, true, false, false, false, false, false, false, false, false, false, false, false, false, false, false, false, false, false, false, false, false, false, false, false, false, false, false] rfl rfl (any_of HT_.out (by kernel_rfl)) (fun _ _ _ h => h) (Or.inl ⟨by rfl, ?_⟩) ?_ ?_
            rotate_left
            · intro w'
              go_simp
              with_reducible rfl
            rotate_left
            · simp only [Act.put, List.setIfInBounds_toArray, List.set_cons_zero, List.set_cons_succ]
              rfl
            refine pure_ (i := 7) (N := some 73) (v := ?_) (a' := ?_) #[true, true, true, true, true, true, true, true, false, false, false, false, false, false, false, false, false, false, false, false, false, false, false, false, false, false, false, false, false, false, false, false, false] rfl rfl (any_of HT_.out (by kernel_rfl)) (fun _ _ _ h => h) (Or.inl ⟨by rfl, ?_⟩) ?_ ?_
            rotate_left
            · intro w'
              go_simp
              with_reducible rfl
            rotate_left
            · simp only [Act.put, List.setIfInBounds_toArray, List.set_cons_zero, List.set_cons_succ]
              rfl
            refine pure_ (i := 8) (N := some 74) (v := ?_) (a' := ?_) #[true, true, true, true, true, true, true, true, true, false, false, false, false, false, false, false, false, false, false, false, false, false, false, false, false, false, false, false, false, false, false, false, false] rfl rfl (any_of HT_.out (by kernel_rfl)) (fun _ _ _ h => h) (Or.inl ⟨by rfl, ?_⟩) ?_ ?_
            rotate_left
            · intro w'
              go_simp
              with_reducible rfl
            rotate_left
            · simp only [Act.put, List.setIfInBounds_toArray, List.set_cons_zero, List.set_cons_succ]
              rfl
            refine pure_ (i := 9) (N := some 75) (v := ?_) (a' := ?_) #[true, true, true, true, true, true, true, true, true, true, false, false, false, false, false, false, false, false, false, false, false, false, false, false, false, false, false, false, false, false, false, false, false] rfl rfl (any_of HT_.out (by kernel_rfl)) (fun _ _ _ h => h) (Or.inl ⟨by rfl, ?_⟩) ?_ ?_
            rotate_left
            · intro w'
              go_simp
              with_reducible rfl
            rotate_left
            · simp only [Act.put, List.setIfInBounds_toArray, List.set_cons_zero, List.set_cons_succ]
              rfl
            refine pure_ (i := 10) (N := some 76) (v := ?_) (a' := ?_) #[true, true, true, true, true, true, true, true, true, true, true, false, false, false, false, false, false, false, false, false, false, false, false, false, false, false, false, false, false, false, false, false, false] rfl rfl (any_of HT_.out (by kernel_rfl)) (fun _ _ _ h => h) (Or.inl ⟨by rfl, ?_⟩) ?_ ?_
            rotate_left
            · intro w'
              go_simp
              with_reducible rfl
            rotate_left
            · simp only [Act.put, List.setIfInBounds_toArray, List.set_cons_zero, List.set_cons_succ]
              rfl
            refine take_ (i := 11) (N := some 77) (v := ?_) (a' := ?_) #[true, true, true, true, true, true, true, true, true, true, true, true, false, false, false, false, false, false, false, false, false, false, false, false, false, false, false, false, false, false, false, false, false] rfl rfl (take_of HT_.out (by kernel_rfl)) (fun _ _ _ h => h) (Or.inl ⟨by rfl, ?_⟩) hHeld ?_ ?_
            rotate_left
            · intro w' hw'
              obtain ⟨s0, s1, u0, u1, u2, u3, u4, u5, u6, u7, u8, u9, u10⟩ := hw'
              go_simp
              with_reducible rfl
            rotate_left
            · simp only [Act.put, List.setIfInBounds_toArray, List.set_cons_zero, List.set_cons_succ]
              rfl
            refine pure_ (i := 12) (N := some 78) (v := ?_) (a' := ?_) #[true, true, true, true, true, true, true, true, true, true, true, true, true, false, false, false, false, false, false, false, false, false, false, false, false, false, false, false, false, false, false, false, false] rfl rfl (any_of HT_.out (by kernel_rfl)) (fun _ _ _ h => h) (Or.inl ⟨by rfl, ?_⟩) ?_ ?_
            rotate_left
            · intro w'
              go_simp
              with_reducible rfl
            rotate_left
            · simp only [Act.put, List.setIfInBounds_toArray, List.set_cons_zero, List.set_cons_succ]
              rfl
            refine pure_ (i := 13) (N := some 79) (v := (.bool false)) (a' := ?_) #[true, true, true, true, true, true, true, true, true, true, true, true, true, true, false, false, false, false, false, false, false, false, false, false, false, false, false, false, false, false, false, false, false] rfl rfl (any_of HT_.out (by kernel_rfl)) (fun _ _ _ h => h) (Or.inl ⟨by rfl, ?_⟩) ?_ ?_
            · intro w'
              go_simp
              first | done | exact f13 | exact HIZ.out | omega | (simp [f13]; done) | trace_state
            rotate_left
            · simp only [Act.put, List.setIfInBounds_toArray, List.set_cons_zero, List.set_cons_succ]
              rfl
            refine pure_ (i := 14) (N := some 80) (v := ?_) (a' := ?_) #[true, true, true, true, true, true, true, true, true, true, true, true, true, true, true, false, false, false, false, false, false, false, false, false, false, false, false, false, false, false, false, false, false] rfl rfl (any_of HT_.out (by kernel_rfl)) (fun _ _ _ h => h) (Or.inl ⟨by rfl, ?_⟩) ?_ ?_
            rotate_left
            · intro w'
              go_simp
              with_reducible rfl
            rotate_left
            · simp only [Act.put, List.setIfInBounds_toArray, List.set_cons_zero, List.set_cons_succ]
              rfl
            refine pure_ (i := 15) (N := some 81) (v := ?_) (a' := ?_) #[true, true, true, true, true, true, true, true, true, true, true, true, true, true, true, true, false, false, false, false, false, false, false, false, false, false, false, false, false, false, false, false, false] rfl rfl (any_of HT_.out (by kernel_rfl)) (fun _ _ _ h => h) (Or.inl ⟨by rfl, ?_⟩) ?_ ?_
            rotate_left
            · intro w'
              go_simp
              with_reducible rfl
            rotate_left
            · simp only [Act.put, List.setIfInBounds_toArray, List.set_cons_zero, List.set_cons_succ]
              rfl
            refine pure_ (i := 16) (N := some 82) (v := ?_) (a' := ?_) #[true, true, true, true, true, true, true, true, true, true, true, true, true, true, true, true, true, false, false, false, false, false, false, false, false, false, false, false, false, false, false, false, false] rfl rfl (any_of HT_.out (by kernel_rfl)) (fun _ _ _ h => h) (Or.inl ⟨by rfl, ?_⟩) ?_ ?_
            rotate_left
            · intro w'
              go_simp
              with_reducible rfl
            rotate_left
            · simp only [Act.put, List.setIfInBounds_toArray, List.set_cons_zero, List.set_cons_succ]
              rfl
            refine pure_ (i := 17) (N := some 83) (v := (.bool true)) (a' := ?_) #[true, true, true, true, true, true, true, true, true, true, true, true, true, true, true, true, true, true, false, false, false, false, false, false, false, false, false, false, false, false, false, false, false] rfl rfl (any_of HT_.out (by kernel_rfl)) (fun _ _ _ h => h) (Or.inl ⟨by rfl, ?_⟩) ?_ ?_
            · intro w'
              go_simp
              first | done | exact f17 | exact HIZ.out | omega | (simp [f17]; done) | trace_state
            rotate_left
            · simp only [Act.put, List.setIfInBounds_toArray, List.set_cons_zero, List.set_cons_succ]
              rfl
            refine pure_ (i := 18) (N := some 84) (v := ?_) (a' := ?_) #[true, true, true, true, true, true, true, true, true, true, true, true, true, true, true, true, true, true, true, false, false, false, false, false, false, false, false, false, false, false, false, false, false] rfl rfl (any_of HT_.out (by kernel_rfl)) (fun _ _ _ h => h) (Or.inl ⟨by rfl, ?_⟩) ?_ ?_
            rotate_left
            · intro w'
              go_simp
              with_reducible rfl
            rotate_left
            · simp only [Act.put, List.setIfInBounds_toArray, List.set_cons_zero, List.set_cons_succ]
              rfl
            refine pure_ (i := 19) (N := some 85) (v := ?_) (a' := ?_) #[true, true, true, true, true, true, true, true, true, true, true, true, true, true, true, true, true, true, true, true, false, false, false, false, false, false, false, false, false, false, false, false, false] rfl rfl (any_of HT_.out (by kernel_rfl)) (fun _ _ _ h => h) (Or.inl ⟨by rfl, ?_⟩) ?_ ?_
            rotate_left
            · intro w'
              go_simp
              with_reducible rfl
            rotate_left
            · simp only [Act.put, List.setIfInBounds_toArray, List.set_cons_zero, List.set_cons_succ]
              rfl
            refine pure_ (i := 20) (N := some 86) (v := ?_) (a' := ?_) #[true, true, true, true, true, true, true, true, true, true, true, true, true, true, true, true, true, true, true, true, true, false, false, false, false, false, false, false, false, false, false, false, false] rfl rfl (any_of HT_.out (by kernel_rfl)) (fun _ _ _ h => h) (Or.inl ⟨by rfl, ?_⟩) ?_ ?_
            rotate_left
            · intro w'
              go_simp
              with_reducible rfl
            rotate_left
            · simp only [Act.put, List.setIfInBounds_toArray, List.set_cons_zero, List.set_cons_succ]
              rfl
            refine pure_ (i := 21) (N := some 87) (v := ?_) (a' := ?_) #[true, true, true, true, true, true, true, true, true, true, true, true, true, true, true, true, true, true, true, true, true, true, false, false, false, false, false, false, false, false, false, false, false] rfl rfl (any_of HT_.out (by kernel_rfl)) (fun _ _ _ h => h) (Or.inl ⟨by rfl, ?_⟩) ?_ ?_
            rotate_left
            · intro w'
              go_simp
              with_reducible rfl
            rotate_left
            · simp only [Act.put, List.setIfInBounds_toArray, List.set_cons_zero, List.set_cons_succ]
              rfl
            refine pure_ (i := 22) (N := some 88) (v := ?_) (a' := ?_) #[true, true, true, true, true, true, true, true, true, true, true, true, true, true, true, true, true, true, true, true, true, true, true, false, false, false, false, false, false, false, false, false, false] rfl rfl (any_of HT_.out (by kernel_rfl)) (fun _ _ _ h => h) (Or.inl ⟨by rfl, ?_⟩) ?_ ?_
            rotate_left
            · intro w'
              go_simp
              with_reducible rfl
            rotate_left
            · simp only [Act.put, List.setIfInBounds_toArray, List.set_cons_zero, List.set_cons_succ]
              rfl
            refine take_ (i := 23) (N := some 89) (v := ?_) (a' := ?_) #[true, true, true, true, true, true, true, true, true, true, true, true, true, true, true, true, true, true, true, true, true, true, true, true, false, false, false, false, false, false, false, false, false] rfl rfl (take_of HT_.out (by kernel_rfl)) (fun _ _ _ h => h) (Or.inl ⟨by rfl, ?_⟩) hHeld ?_ ?_
            rotate_left
            · intro w' hw'
              obtain ⟨s0, s1, u0, u1, u2, u3, u4, u5, u6, u7, u8, u9, u10⟩ := hw'
              go_simp
              with_reducible rfl
            rotate_left
            · simp only [Act.put, List.setIfInBounds_toArray, List.set_cons_zero, List.set_cons_succ]
              rfl
            refine pure_ (i := 24) (N := some 90) (v := ?_) (a' := ?_) #[true, true, true, true, true, true, true, true, true, true, true, true, true, true, true, true, true, true, true, true, true, true, true, true, true, false, false, false, false, false, false, false, false] rfl rfl (any_of HT_.out (by kernel_rfl)) (fun _ _ _ h => h) (Or.inl ⟨by rfl, ?_⟩) ?_ ?_
            rotate_left
            · intro w'
              go_simp
              with_reducible rfl
            rotate_left
            · simp only [Act.put, List.setIfInBounds_toArray, List.set_cons_zero, List.set_cons_succ]
              rfl
            refine pure_ (i := 25) (N := some 91) (v := ?_) (a' := ?_) #[true, true, true, true, true, true, true, true, true, true, true, true, true, true, true, true, true, true, true, true, true, true, true, true, true, true, false, false, false, false, false, false, false] rfl rfl (any_of HT_.out (by kernel_rfl)) (fun _ _ _ h => h) (Or.inl ⟨by rfl, ?_⟩) ?_ ?_
            rotate_left
            · intro w'
              go_simp
              with_reducible rfl
            rotate_left
            · simp only [Act.put, List.setIfInBounds_toArray, List.set_cons_zero, List.set_cons_succ]
              rfl
            refine pure_ (i := 26) (N := some 92) (v := ?_) (a' := ?_) #[true, true, true, true, true, true, true, true, true, true, true, true, true, true, true, true, true, true, true, true, true, true, true, true, true, true, true, false, false, false, false, false, false] rfl rfl (any_of HT_.out (by kernel_rfl)) (fun _ _ _ h => h) (Or.inl ⟨by rfl, ?_⟩) ?_ ?_
            rotate_left
            · intro w'
              go_simp
              with_reducible rfl
            rotate_left
            · simp only [Act.put, List.setIfInBounds_toArray, List.set_cons_zero, List.set_cons_succ]
              rfl
            refine take_ (i := 27) (N := some 93) (v := ?_) (a' := ?_) #[true, true, true, true, true, true, true, true, true, true, true, true, true, true, true, true, true, true, true, true, true, true, true, true, true, true, true, true, false, false, false, false, false] rfl rfl (take_of HT_.out (by kernel_rfl)) (fun _ _ _ h => h) (Or.inl ⟨by rfl, ?_⟩) hHeld ?_ ?_
            rotate_left
            · intro w' hw'
              obtain ⟨s0, s1, u0, u1, u2, u3, u4, u5, u6, u7, u8, u9, u10⟩ := hw'
              go_simp
              with_reducible rfl
            rotate_left
            · simp only [Act.put, List.setIfInBounds_toArray, List.set_cons_zero, List.set_cons_succ]
              rfl
            refine one_ (i := 28) (N := some 94) #[true, true, true, true, true, true, true, true, true, true, true, true, true, true, true, true, true, true, true, true, true, true, true, true, true, true, true, true, true, false, false, false, false] rfl rfl (one_of HT_.out (by kernel_rfl)) (by decide) (fun Kq_ hK_ => ?_)
            refine goes_ Try.func19 (by kernel_rfl) rfl #[.agg (celA x A5 k5)] (by rfl) rfl rfl (by (try simp only [List.map_toArray, List.map_cons, List.map_nil]); first | done | rfl) ?_
            with_reducible refine (size_any x A5 k5 _ (Kd.C_below HR5.out (below_drew (Below.refl _ _))) HX5.out.1).mono ?_
            rintro e w9 ⟨rfl, hb⟩
            refine ⟨_, rfl, ?_⟩
            rw [HZ5.out]
            replace HC5 := Aside0.mk (CelIn.below HC5.out ((below_drew (Below.refl _ _)).trans (hb.mono (Nat.le_refl _))))
            replace HALL := Aside0.mk (Kd.R_below HALL.out hb)
            replace HCL := Aside0.mk (HCL.out.below hb)
            replace HB := Aside0.mk (HB.out.trans (hb.mono HB.out.size))
            clear hb
            refine hK_.out _ _ ⟨pw_cell_below HB.out HCB.out, pw_cell_below HB.out HCK.out, HC5.out⟩ (fun hHeld => ?_)
            clear hK_ Kq_
            refine norm_ (a' := ?_) ?_ ?_
            rotate_left
            · show Act.put _ (some 94) _ = _
              simp only [Act.put, List.setIfInBounds_toArray, List.set_cons_zero, List.set_cons_succ]
              rfl
            refine pure_ (i := 29) (N := some 95) (v := ?_) (a' := ?_) #[true, true, true, true, true, true, true, true, true, true, true, true, true, true, true, true, true, true, true, true, true, true, true, true, true, true, true, true, true, true, false, false, false] rfl rfl (any_of HT_.out (by kernel_rfl)) (fun _ _ _ h => h) (Or.inl ⟨by rfl, ?_⟩) ?_ ?_
            rotate_left
            · intro w'
              go_simp
              with_reducible rfl
            rotate_left
            · simp only [Act.put, List.setIfInBounds_toArray, List.set_cons_zero, List.set_cons_succ]
              rfl
            refine pure_ (i := 30) (N := some 96) (v := (.bool false)) (a' := ?_) #[true, true, true, true, true, true, true, true, true, true, true, true, true, true, true, true, true, true, true, true, true, true, true, true, true, true, true, true, true, true, true, false, false] rfl rfl (any_of HT_.out (by kernel_rfl)) (fun _ _ _ h => h) (Or.inl ⟨by rfl, ?_⟩) ?_ ?_
            · intro w'
              go_simp
              first | done | exact f30 | exact HIZ.out | omega | (simp [f30]; done) | trace_state
            rotate_left
            · simp only [Act.put, List.setIfInBounds_toArray, List.set_cons_zero, List.set_cons_succ]
              rfl
            refine pure_ (i := 31) (N := some 97) (v := ?_) (a' := ?_) #[true, true, true, true, true, true, true, true, true, true, true, true, true, true, true, true, true, true, true, true, true, true, true, true, true, true, true, true, true, true, true, true, false] rfl rfl (any_of HT_.out (by kernel_rfl)) (fun _ _ _ h => h) (Or.inl ⟨by rfl, ?_⟩) ?_ ?_
            rotate_left
            · intro w'
              go_simp
              with_reducible rfl
            rotate_left
            · simp only [Act.put, List.setIfInBounds_toArray, List.set_cons_zero, List.set_cons_succ]
              rfl
            refine pure_ (i := 32) (N := some 98) (v := ?_) (a' := ?_) #[true, true, true, true, true, true, true, true, true, true, true, true, true, true, true, true, true, true, true, true, true, true, true, true, true, true, true, true, true, true, true, true, true] rfl rfl (any_of HT_.out (by kernel_rfl)) (fun _ _ _ h => h) (Or.inl ⟨by rfl, ?_⟩) ?_ ?_
            rotate_left
            · intro w'
              go_simp
              with_reducible rfl
            rotate_left
            · simp only [Act.put, List.setIfInBounds_toArray, List.set_cons_zero, List.set_cons_succ]
              rfl
            refine done_ (done_of HT_.out (by kernel_rfl)) ?_
            clear HT_ hHeld f17 f30 e1 e2 e3 hK0 hK1 hn30
            go_wp2
            obtain ⟨gkm, rfl⟩ : ∃ gkm : Nat, gkm = gk := ⟨_, rfl⟩
            go_loopg [7, 11] n3 (fun gk v7 v11 w' => ∃ (k : Nat), v11 = .int .i64 (k : Int) ∧ k + gk = n3 ∧ Aside0 (OwC w' y1.heap.size v7 ((G.take i).flatten ++ g.take k)) ∧ Aside0 (Cells w' y1.heap.size ad3 g n3) ∧ Aside0 (some ad3.block ≠ v7.ownBlock) ∧ Aside0 (Below y1.heap.size y1 w'))
            case atStart => exact ⟨0, rfl, by omega, ⟨by simpa using HALL.out⟩, HCL, HAP, HB⟩
            case round =>
              clear HB HALL HCL HAP
              obtain ⟨k, rfl, hkg, HALL, HCL, HAP, HB⟩ := hrel
              by_cases hltk : k < n3
              · obtain ⟨A7, c7, rfl⟩ := Kd.R_slice HALL.out
                obtain ⟨na, hna⟩ : ∃ n, n = ((G.take i).flatten ++ g.take k).length := ⟨_, rfl⟩
                rw [← hna] at HALL HAP ⊢
                have hna2 : na = (G.take i).flatten.length + k := by rw [hna, List.length_append, List.length_take]; have := HN3.out; omega
                have hnal : na < l.length := by rw [hna2]; exact HSUB.out k (by rw [← HN3.out]; exact hltk)
                obtain ⟨ap, hap, hcp⟩ := C_at HP.out na hnal
                subst hap
                rw [hna2, HNUM.out k (by rw [← HN3.out]; exact hltk), ← hna2] at hcp
                have hcp1 := pw_cell_below HB.out hcp
                obtain ⟨A5, k5, hc5, hM5⟩ := HCL.out.at_ k hltk
                obtain ⟨x, hx⟩ : ∃ x, x = gdC g k := ⟨_, rfl⟩
                rw [← hx] at hc5 hM5
                obtain ⟨c0, c1, c2, c3, c4, c5, c6, c7', c8, c9, c10⟩ := hc5
                have HM5 := Aside0.mk hM5
                have HNA := Aside0.mk hna
                have HNL := Aside0.mk hnal
                have HTK := Aside0.mk (show g.take (k + 1) = g.take k ++ [x] by rw [List.take_succ_eq_append_getElem (by rw [← HN3.out]; exact hltk), hx]; simp [gdC, show k < g.length by rw [← HN3.out]; exact hltk])
                have d1 : ¬ (na : Int) ≥ (l.length : Int) := by omega
                have d2 : (0 : Int) ≤ (na : Int) := by omega
                have d3 : (na : Int) < (l.length : Int) := by omega
                have d4 : (0 : Int) ≤ (k : Int) := by omega
                have d5 : (k : Int) < (n3 : Int) := by omega
                clear hna hna2 hnal hcp hM5 hx
                go_wp2_with ((with_reducible refine gate_builtin (b := .append) (xs := #[.tmp 119, .tmp 124]) rfl ?_); at_builtin; go_must (refine Kd.R_append CelD (w0 := y1) y1.heap.size rfl (.tmp 119) (.tmp 124) 22 30 (.agg (celA cel0 none 0)) 104 rfl Try.underlying22 infoCelO rfl (by decide) (by omega) _ ((G.take i).flatten ++ g.take k) x (celA x A5 k5).toList (fun _ => True) _ rfl rfl (CelD.M_bound HM5.out) (fun k hk => ⟨trivial, (by obtain ⟨_, _, _, q, hq, cells, hc⟩ := hk; have := celE_u8 hq; subst this; exact Kd.R_ne HALL.out hc (by decide))⟩) (fun _ _ => trivial) HALL.out HB.out HB.out.size (by have := HNA.out; have := HNL.out; omega) ?_; intro v9 w9 ho hb hg hat; have HCL2 := Aside0.mk (HCL.out.over HALL.out hg HAP.out); have HAP2 := Aside0.mk (apart_on HAP.out HCL.out.lt hat); clear HALL HB; have HALL := Aside0.mk ho; have HB := Aside0.mk hb; clear ho hb hg hat))
                go_roundg (gk - 1)
                case measure => omega
                case rel => exact ⟨k + 1, by go_num, by omega, ⟨by rw [HTK.out, ← List.append_assoc]; exact HALL.out⟩, HCL2, HAP2, HB⟩
              · have HKE := Aside0.mk (show g.take k = g from List.take_of_length_le (by rw [← HN3.out]; omega))
                go_wp2
                go_roundg (gkm - 1)
                case measure => omega
                case rel => exact ⟨i + 1, by go_num, by omega, ⟨by rw [HTF.out]; have := HALL.out; rw [HKE.out] at this; exact this⟩, HB⟩
        · have HAE := Aside0.mk (show (G.take i).flatten = l by rw [List.take_of_length_le (by have := HNG.out; omega)]; exact HGRP.out.flat)
          rw [HAE.out] at HALL
          obtain ⟨A7, c7, rfl⟩ := Kd.R_slice HALL.out
          go_wp2_with (go_at_call 18; go_must (refine (same13_yes A7 B0 l.length l.length c7 bc l _ (Kd.R_reads' HALL.out).2.2 (Kd.C_below HR.out HB.out) (fun x hx => (HT.out x hx).wf.2.2)).mono ?_; rintro e y9 ⟨rfl, hb⟩; replace HB := Aside0.mk (HB.out.trans (hb.mono HB.out.size)); clear hb))
          go_ret
          exact ⟨rfl, HB0.out.trans (HB.out.mono HB0.out.size)⟩
end Go.Proofs.Ytghcnipehgjegaa.Cell
