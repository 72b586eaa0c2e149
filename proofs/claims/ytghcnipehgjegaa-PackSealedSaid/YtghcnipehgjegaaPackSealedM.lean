/- PackSealed answers true for every list of cells, every generation, every two bytes. No conditions. -/
import Derived.Test.YtghcnipehgjegaaPackAgain
import Derived.Test.YtghcnipehgjegaaSealAll
namespace Go.Proofs.Ytghcnipehgjegaa.Cell
open Go.RowKit Go.Proofs.YtghcnipehgjegaaW.PrintWords Go.Proofs.YtghcnipehgjegaaW.PrintLast Go.Proofs.YtghcnipehgjegaaW.PrintMore Go.Proofs.Ytghcnipehgjegaa.Kit Go.Proofs.Ytghcnipehgjegaa.Plain Go.Proofs.Ytghcnipehgjegaa.Wire
attribute [local go_sem] max2_int min2_int max_two min_two max_three min_three
set_option linter.unusedVariables false
set_option linter.unusedSimpArgs false
/-- append(v, ys...): rows of cells of one's own. -/
theorem appCells {P : Program} {ops : Array Oper} {rest : List Oper} {o : Oper} {a : Act} {Q : Exit → Act → World → Prop} {w0 W : World} (base b2 : Nat) (hgd : o.guard = none) (s x : Operand)
    (ho : o.op = .call { callee := .builtin .append, args := #[s, x], argTypes := #[22, 22] }) (hP : P = Try.prog)
    (v : Value) (xs ys : List Cel) (A : Option Addr) (m c : Nat) (hs : a.eval s = v) (hx : a.eval x = .slice A m c)
    (HO : OwC W base v xs) (HR : OwC W b2 (.slice A m c) ys) (hb2 : base ≤ b2) (HB : Below base w0 W) (hbase : base ≤ W.heap.size) (hl : xs.length + m ≤ 1000000)
    (h : ∀ v1 w1, OwC w1 base v1 (xs ++ ys) → Below base w0 w1 → W.grownBy w1 v.ownBlock → wpList P ops Q rest (a.put o.dst v1) w1) :
    wpList P ops Q (o :: rest) a W := by
  subst hP
  obtain ⟨A', c', he, hlc, hr⟩ := OwnRow.reads HR.2
  injection he with h1 h2 h3
  subst h1 h2 h3
  have hok : ∀ k, (∃ cells, W.heap[k]? = some (.cells cells 5 (0, 0))) → some k ≠ v.ownBlock := fun k hk => by
    obtain ⟨cells, hc⟩ := hk
    exact Kd.R_ne HO hc (by decide)
  refine Kd.R_append_rows CelD (Rr := CelD.M W base (fun k => ∃ cells, W.heap[k]? = some (.cells cells 5 (0, 0)))) base hgd s x 22 30 (.agg (celA cel0 none 0)) 104 ho Try.underlying22 infoCelO rfl (by decide) (by omega) v xs ys A _ c (fun _ => True) (fun k => ∃ cells, W.heap[k]? = some (.cells cells 5 (0, 0))) hs hx HO
    (hr.imp_ (Below.refl _ _) (fun _ _ hp => CelD.M_mono (fun k hk => ?_) (CelD.M_bound (CelD.M_lower hb2 hp)))) (fun _ _ hh => hh) (fun k hk => ⟨trivial, hok k hk⟩) (fun _ _ => trivial) HB hbase (by omega) (fun v1 w1 h1 h2 h3 _ => h v1 w1 h1 h2 h3)
  obtain ⟨_, _, _, q, hq, cells, hc⟩ := hk
  have := celE_u8 hq
  subst this
  exact ⟨cells, hc⟩
def litZ : Array Value := ((zerB 32).map (Value.int .u8) ++ [Value.int .u64 0] ++ (zerB 32).map (Value.int .u8)).toArray
theorem infoLit : (Try.prog.info? 59).map (fun i => (i.zero, i.size)) = some (some (.agg litZ), 65) := by kernel_rfl
theorem infoTwo : (Try.prog.info? 50).map (fun i => i.size) = some 2 := by kernel_rfl
def tabPs25 : Bool × List (List Nat × List Nat) := (true, [([], []), ([0], [0]), ([1], [1]), ([2], [2]), ([3], [3]), ([4], [4]), ([], []), ([6], [6]), ([5, 7], [5, 7]), ([3, 0, 1, 2, 3, 4, 5, 6, 7, 8], [3]), ([9, 8, 0, 1, 2, 3, 4, 5, 6, 7, 8], [8, 9])])
theorem tabPs25_ok : rtab .any (opsOf Try.f8 25) = tabPs25 := by kernel_rfl
theorem xor_id {x r : Int} (hx : 0 ≤ x ∧ x < 256) (hr : 0 ≤ r ∧ r < 256) : (xor8 x r = x) ↔ r = 0 := by
  constructor
  · intro h
    have h1 : xor8 x (xor8 x r) = r := by rw [← xor8_assoc hx hx hr, xor8_self hx, xor8_comm ⟨by decide, by decide⟩ hr, xor8_zero hr]
    rw [h, xor8_self hx] at h1
    exact h1.symm
  · rintro rfl; exact xor8_zero hx
theorem set_same {l : List Int} {i : Nat} (h : i < l.length) : l.set i (nth l i) = l := by
  rw [nth_eq h]; exact List.set_getElem_self h
set_option maxHeartbeats 6400000 in
set_option maxRecDepth 100000 in
theorem sealed_law (B0 : Option Addr) (n0 bc : Nat) (l : List Cel) (gen r0 r1 : Int) (w : World) (hr : Kd.C CelD w B0 n0 l) (ht : ∀ x ∈ l, CelTy x) (hg0 : 0 ≤ gen ∧ gen < 2 ^ 64) (hr0 : 0 ≤ r0 ∧ r0 < 256) (hr1 : 0 ≤ r1 ∧ r1 < 256) :
    Calls Try.prog 8 #[.slice B0 n0 bc, .int .u64 gen, .agg (cellsB [r0, r1])] w fun e w' => e = .returned (.bool true) ∧ Below w.heap.size w w' := by
  obtain rfl := Kd.C_len hr
  have hmx := Kd.C_max hr
  have HR := Aside0.mk hr
  have HT := Aside0.mk ht
  have HGEN := Aside0.mk hg0
  have HR0 := Aside0.mk hr0
  have HR1 := Aside0.mk hr1
  have HRB2 := Aside0.mk (AB_new w 50 [r0, r1])
  have zL := (zero_of_info infoLit).1
  obtain ⟨L, hL⟩ : ∃ L, L = litZ := ⟨_, rfl⟩
  rw [← hL] at zL
  clear hL
  have zSec := (zero_of_info infoSec).1
  clear hr ht hg0 hr0 hr1
  have HB := Aside0.mk (below_alloc (Below.refl w.heap.size w) (.cells (cellsB [r0, r1]) 50))
  have HAWK : Aside0 True := ⟨trivial⟩
  by_cases hlen : 12 < l.length
  · have g0 : decide (12 < (l.length : Int)) = true := decide_eq_true (by omega)
    go_enter Try.func8, Try.ntmps8
    go_wp2_with (go_at_call 9; go_must (refine (awake13_any _).mono ?_; rintro e w1 ⟨rfl, hb⟩; replace HRB2 := Aside0.mk (AB_kept HRB2.out (hb.mono (Nat.le_refl _))); have xb := HB.out.trans (hb.mono HB.out.size); clear HB hb; have HB := Aside0.mk xb; clear xb))
    go_ret
    exact ⟨rfl, HB.out⟩
  have g0 : decide (12 < (l.length : Int)) = false := decide_eq_false (by omega)
  have HL12 := Aside0.mk (show l.length ≤ 12 by omega)
  clear hlen
  go_enter Try.func8, Try.ntmps8
  go_wp2_with (go_at_call 9; go_must (refine (awake13_any _).mono ?_; rintro e w1 ⟨rfl, hb⟩; replace HRB2 := Aside0.mk (AB_kept HRB2.out (hb.mono (Nat.le_refl _))); have xb := HB.out.trans (hb.mono HB.out.size); clear HB hb; have HB := Aside0.mk xb; clear xb))
  go_loopg [7] l.length (fun gk v w' => ∃ i : Nat, v = .int .i64 (i : Int) ∧ i + gk = l.length ∧ Aside0 (∀ x ∈ l.take i, rightB x = true) ∧ Aside0 (AB w' w.heap.size 50 [r0, r1]) ∧ Aside0 (Below w.heap.size w w'))
  case atStart => exact ⟨0, rfl, by omega, ⟨fun x hx => by simp at hx⟩, HRB2, HB⟩
  case round =>
    clear HB HRB2
    obtain ⟨i, rfl, hi, HG, HRB2, HB⟩ := hrel
    by_cases hlt : i < l.length
    · obtain ⟨ad, A, c, rfl, hcel, hcapx, hra⟩ := cel_row HR.out i hlt
      obtain ⟨x, hx⟩ : ∃ x, x = gdC l i := ⟨_, rfl⟩
      have htx : CelTy x := hx ▸ HT.out _ (gdC_mem hlt)
      rw [← hx] at hcel hcapx hra
      obtain ⟨c0, c1, c2, c3, c4, c5, c6, c7, c8, c9, c10⟩ := CelIn.below hcel HB.out
      have HRA := Aside0.mk hra
      have HTX := Aside0.mk htx
      have HTK := Aside0.mk (show l.take (i + 1) = l.take i ++ [x] by rw [List.take_succ_eq_append_getElem hlt, hx]; simp [gdC, hlt])
      have hmx' := C_max hra
      have hi0 : 0 ≤ (i : Int) := by omega
      have hi1 : (i : Int) < (l.length : Int) := by omega
      clear hcel hcapx hra htx hx
      cases hrx : rightB x with
      | false =>
        go_wp2_with (go_at_call 10; go_must (refine (refright_any x A c _ (Kd.C_below HRA.out HB.out) HTX.out.wf.2.2).mono ?_; rintro e y7 ⟨rfl, hb⟩; rw [hrx]; replace HRB2 := Aside0.mk (AB_kept HRB2.out hb); replace HB := Aside0.mk (HB.out.trans (hb.mono HB.out.size)); clear hb))
        go_ret
        exact ⟨rfl, HB.out⟩
      | true =>
        have HRX := Aside0.mk hrx
        go_wp2_with (go_at_call 10; go_must (refine (refright_any x A c _ (Kd.C_below HRA.out HB.out) HTX.out.wf.2.2).mono ?_; rintro e y7 ⟨rfl, hb⟩; rw [hrx]; replace HRB2 := Aside0.mk (AB_kept HRB2.out hb); replace HB := Aside0.mk (HB.out.trans (hb.mono HB.out.size)); clear hb))
        go_roundg (gk - 1)
        case measure => omega
        case rel => exact ⟨i + 1, by go_num, by omega, ⟨fun y hy => by
          rw [HTK.out] at hy
          rcases List.mem_append.1 hy with hy | hy
          · exact HG.out y hy
          · rw [List.mem_singleton] at hy; subst hy; exact HRX.out⟩, HRB2, HB⟩
    · have HRT := Aside0.mk (show ∀ x ∈ l, rightB x = true by have := HG.out; rwa [List.take_of_length_le (by omega)] at this)
      clear HG
      have HFL := Aside0.mk (show FineL l from fun x hx => ⟨(HT.out x hx).wf, HRT.out x hx⟩)
      have hl12 := HL12.out
      obtain ⟨G, hG⟩ : ∃ G, G = groups l := ⟨_, rfl⟩
      have hgrp := groups_all l (fun x hx => by have := (encS_len x (HT.out x hx).wf (HRT.out x hx)).2.1; omega)
      have hbod := groups_bodies l
      have hnl := (fillP_lens (l.map encS)).1
      rw [← hG] at hgrp hbod
      rw [hbod, List.length_map, List.length_map] at hnl
      obtain ⟨I, hI⟩ : ∃ I, I = (fillP (l.map encS)).2 := ⟨_, rfl⟩
      rw [← hI] at hgrp
      have HGRP := Aside0.mk hgrp
      have HBOD := Aside0.mk hbod
      have HII := Aside0.mk hI
      clear hG hgrp hbod hI
      obtain ⟨nG, hnG⟩ : ∃ n, n = G.length := ⟨_, rfl⟩
      rw [← hnG] at hnl
      have HNG := Aside0.mk hnG
      clear hnG
      go_wp2_with (first
        | (go_at_call 11; go_must (refine (fill_any B0 l.length bc l _ (Kd.C_below HR.out HB.out) HT.out (by omega) HRT.out).mono ?_; rintro e y1 ⟨⟨va, vp, rfl, ha, hp⟩, hb⟩; rw [HBOD.out] at ha; rw [← HII.out] at hp; obtain ⟨Aa, ca, rfl⟩ := Kd.S_slice ha; obtain ⟨Ap, cp, rfl⟩ := Kd.R_slice hp; rw [List.length_map, ← HNG.out] at ha ⊢; have HA := Aside0.mk (Kd.S_reads' ha).2.2; rw [List.length_map, ← HNG.out] at HA; replace HRB2 := Aside0.mk (AB_kept HRB2.out hb); replace HB := Aside0.mk (HB.out.trans (hb.mono HB.out.size)); clear ha hp hb)))
      have HB0 := HB
      replace HR := Aside0.mk (Kd.C_below HR.out HB.out)
      have hng12 : nG ≤ 12 := by omega
      have HWY := Aside0.mk HB.out.size
      clear HB hnl
      have HB := Aside0.mk (Below.refl y1.heap.size y1)
      go_loopg [11, 12] nG (fun gk v11 v12 w' => ∃ (i : Nat), v12 = .int .i64 (i : Int) ∧ i + gk = nG ∧ Aside0 (OwC w' y1.heap.size v11 (G.take i).flatten) ∧ Aside0 (Below y1.heap.size y1 w'))
      case atStart => exact ⟨0, rfl, by omega, ⟨Kd.R_nil _ _ _ _ _⟩, HB⟩
      case round =>
        clear HB
        obtain ⟨i, rfl, hig, HALL, HB⟩ := hrel
        by_cases hlti : i < nG
        · have hiG : i < G.length := by have := HNG.out; omega
          obtain ⟨adB, Ai, ki, rfl, hcb, hki, hrb⟩ := C_row HA.out i hlti
          have hrb' : Kd.C (Kd.int .u8) y1 Ai (encAll (nthG G i)).length (encAll (nthG G i)) := by have := hrb; rw [nthG_map] at this; exact this
          rw [nthG_map] at hcb hki
          have hmem : nthG G i ∈ G := by
            have : nthG G i = G[i] := by simp [nthG, hiG]
            rw [this]; exact List.getElem_mem hiG
          have hlg : (encAll (nthG G i)).length ≤ 103 := HGRP.out.fits _ hmem
          have HTF := Aside0.mk (take_flat hiG)
          have hgm : ∀ x ∈ nthG G i, x ∈ l := fun x hx => by rw [← HGRP.out.flat]; exact List.mem_flatten.2 ⟨_, hmem, hx⟩
          have HLF := Aside0.mk (show (G.take i).flatten.length ≤ 12 ∧ (nthG G i).length ≤ 12 by
            have h1 := congrArg List.length HGRP.out.flat
            have h2 : ((G.take i).flatten ++ nthG G i).length ≤ G.flatten.length := by
              rw [← HTF.out]
              conv => rhs; rw [← List.take_append_drop (i + 1) G]
              rw [List.flatten_append, List.length_append]; omega
            rw [List.length_append] at h2
            omega)
          obtain ⟨g, hg⟩ : ∃ g, g = nthG G i := ⟨_, rfl⟩
          rw [← hg] at hrb' hcb hki hlg HTF hgm HLF
          have HFG := Aside0.mk (show FineL g from fun x hx => HFL.out x (hgm x hx))
          have HOO := Aside0.mk (openR_all HFG.out hlg)
          have HBY := Aside0.mk (show Byt (encAll g) from encAll_byt (fun x hx => (HFG.out x hx).1.2.2))
          obtain ⟨lb, hlb⟩ : ∃ n, n = (encAll g).length := ⟨_, rfl⟩
          rw [← hlb] at hrb' hcb hki hlg
          have HRB := Aside0.mk hrb'
          have HKI := Aside0.mk hki
          have hcb1 := pw_cell_below HB.out hcb
          have hi0 : (0 : Int) ≤ (i : Int) := by omega
          have hi1 : (i : Int) < (nG : Int) := by omega
          have e2 : IntKind.i64.wrap (2 + (i : Int)) = ((2 + i : Nat) : Int) := by rw [IntKind.wrap_i64]; omega
          obtain ⟨p, hp⟩ : ∃ p, p = 2 + i := ⟨_, rfl⟩
          rw [← hp] at e2
          have HP := Aside0.mk (show p < 4096 by omega)
          have HLG := Aside0.mk (show lb ≤ 103 ∧ lb = (encAll g).length from ⟨hlg, hlb⟩)
          have hSL := sealP_len (p := (p : Int)) (gen := gen) (body := encAll g) (by omega)
          have hSB := sealP_byt (p := (p : Int)) (gen := gen) (body := encAll g) (by omega) HBY.out
          have hUS := unseal_seal (p := (p : Int)) (gen := gen) (body := encAll g) HGEN.out.1 HGEN.out.2 (by omega)
          obtain ⟨j, hj⟩ := Int.eq_ofNat_of_zero_le (show 0 ≤ r0 % 128 by omega)
          have hj128 : j < 128 := by omega
          have hRot : ∀ v, 0 ≤ v ∧ v < 256 → nth (sealP (p : Int) gen (encAll g)) j ≠ v → unsealP (p : Int) ((sealP (p : Int) gen (encAll g)).set j v) = none := fun v hv hne => unseal_rot (by omega) HBY.out hj128 hv hne
          have HSAME := Aside0.mk (set_same (l := sealP (p : Int) gen (encAll g)) (i := j) (by omega))
          obtain ⟨S, hS⟩ : ∃ S, S = sealP (p : Int) gen (encAll g) := ⟨_, rfl⟩
          rw [← hS] at hSL hSB hUS hRot HSAME
          have HS := Aside0.mk (And.intro hSL hSB)
          have HUS := Aside0.mk hUS
          have HROT := Aside0.mk hRot
          have HSE := Aside0.mk hS
          have hxb := hSB.nth (i := j) (by omega)
          obtain ⟨x, hx⟩ : ∃ x, x = nth S j := ⟨_, rfl⟩
          rw [← hx] at hxb HSAME HROT
          have HX := Aside0.mk (And.intro hx hxb)
          obtain ⟨y, hy⟩ : ∃ y, y = xor8 x r1 := ⟨_, rfl⟩
          have HY := Aside0.mk (show (0 ≤ y ∧ y < 256) ∧ (y = x ↔ r1 = 0) ∧ y = xor8 x r1 by rw [hy]; exact ⟨xor8_range hxb HR1.out, xor_id hxb HR1.out, rfl⟩)
          have HJ := Aside0.mk hj128
          have HJE := Aside0.mk hj
          clear hrb hrb' hcb hki hgm hg hlb hmem hiG hSL hSB hUS hRot hS hxb hx hy hj hj128 hp hlg hl12
          obtain ⟨AL, cL, rfl⟩ := Kd.R_slice HALL.out
          obtain ⟨nA, hnA⟩ : ∃ n, n = (G.take i).flatten.length := ⟨_, rfl⟩
          have HNA := Aside0.mk hnA
          rw [← hnA] at HALL ⊢
          clear hnA
          have HRY := HRB2
          go_upto_region 25 with (first
            | (go_at_call 20; go_must ((refine (pack_any L p HP.out gen Ai lb ki (encAll g) _ (Kd.C_below HRB.out HB.out) HLG.out.1 HBY.out).mono ?_); rintro e y3 ⟨rfl, hb⟩; rw [← HSE.out]; have xo := Kd.R_below HALL.out hb; have xb := HB.out.trans (hb.mono HB.out.size); clear HALL HB hb hcb1; have HALL := Aside0.mk xo; have HB := Aside0.mk xb; clear xo xb))
            | ((with_reducible refine gate_ (.store 52 (.tmp 13) (.tmp 65)) rfl ?_); go_must (refine storeA y1.heap.size rfl 52 (.tmp 13) (.tmp 65) rfl y3.heap.size (zerB 128) S rfl rfl (blk_new y3 _) (by rw [HS.out.1]; rfl) (by rw [HS.out.1]; exact (zero_of_info infoSec).2) (below_alloc HB.out _) HB.out.size ?_; intro y4 ha hb hoth hsz; clear hsz; have xo := Kd.R_mono (Kd.R_move (Kd.R_bound HALL.out) (fun k hk => (hoth k (by have := hk.2.2.1; omega)).trans (heap_alloc_old y3 _ hk.2.2.1))) (ok' := fun _ => True) (fun k hk => hk.1); have HQ3 := Aside0.mk HB.out.size; clear HALL HB hoth; have HALL := Aside0.mk xo; have HB := Aside0.mk hb; have HA1 := Aside0.mk ha; clear xo ha hb))
            | ((with_reducible refine gate_ (.load 52 (.tmp 13)) rfl ?_); go_must (refine loadA rfl 52 (.tmp 13) rfl y3.heap.size 128 5 rfl S HA1.out (by kernel_rfl) (by rw [HS.out.1]; exact (zero_of_info infoSec).2) ?_))
            | (go_at_call 21; go_must ((refine (unpack_any L p HP.out S HS.out.1 HS.out.2 _).mono ?_); rintro e y5 ⟨g5, v5, ok5, rfl, hb, ht5⟩; rw [HUS.out] at ht5; obtain ⟨hg5, rfl, ho5⟩ := ht5; have hg6 : gen = g5 := hg5.symm; subst hg6; clear hg5; have xo := Kd.R_below HALL.out hb; have x1 := AB_kept HA1.out hb; have xb := HB.out.trans (hb.mono HB.out.size); clear HALL HA1 HB hb; have HALL := Aside0.mk xo; have HA1 := Aside0.mk x1; have HB := Aside0.mk xb; obtain ⟨A5, c5, rfl, hcap5, hr5⟩ := Ow_slice ho5; have HR5 := Aside0.mk (show RdN y5 A5 lb (encAll g) by rw [HLG.out.2]; exact hr5); have HC5 := Aside0.mk (show lb ≤ c5 by rw [HLG.out.2]; exact hcap5); rw [show ((gen, encAll g) : Int × List Int).2.length = lb from HLG.out.2.symm]; clear xo x1 xb ho5 hcap5 hr5))
            | (go_at_call 16; go_must ((refine (open_any A5 lb c5 (encAll g) _ HR5.out HC5.out HBY.out).mono ?_); rintro e y6 ⟨⟨h1, _⟩, hb⟩; obtain ⟨v6, rfl, hc⟩ := h1 _ HOO.out; obtain ⟨A6, c6, rfl⟩ := Kd.R_slice hc; have xo := Kd.R_below HALL.out hb; have x1 := AB_kept HA1.out hb; have HY56 := Aside0.mk HB.out.size; have xb := HB.out.trans (hb.mono HB.out.size); clear HALL HA1 HB hb h1; have HALL := Aside0.mk xo; have HA1 := Aside0.mk x1; have HB := Aside0.mk xb; have HC6 := Aside0.mk hc; clear xo x1 xb hc))
            | ((with_reducible refine gate_dst (N := 97) rfl ?_); go_must (refine appCells (w0 := y1) y1.heap.size y5.heap.size rfl (.tmp 95) (.tmp 96) rfl rfl (.slice AL nA cL) (G.take i).flatten g A6 g.length c6 rfl rfl HALL.out HC6.out HY56.out HB.out HB.out.size (by have := HLF.out; omega) ?_; intro v7 y7 ho hb hg; have x1 : AB y7 y3.heap.size 52 S := (hg.block _ (blk_lt HA1.out) (Kd.R_ne HALL.out HA1.out (by decide))).trans HA1.out; rw [← HTF.out] at ho; clear HALL HA1 HB hg; have HALL := Aside0.mk ho; have HA1 := Aside0.mk x1; have HB := Aside0.mk hb; clear ho x1 hb)))
          have hrb := AB_kept HRB2.out HB.out
          have cr0 := AB_cell hrb 0 (by simp)
          have cr1 := AB_cell hrb 1 (by simp)
          rw [show nth [r0, r1] 0 = r0 from rfl] at cr0
          rw [show nth [r0, r1] 1 = r1 from rfl] at cr1
          have cS := AB_cell HA1.out j (by rw [HS.out.1]; exact HJ.out)
          rw [← HX.out.1] at cS
          have zS := AB_frozen HA1.out j
          have hr00 := HR0.out.1
          have f1 : IntKind.i64.wrap r0 = r0 := by have := HR0.out; rw [IntKind.wrap_i64]; omega
          have f2 : r0.tmod 128 = (j : Int) := by rw [Int.tmod_eq_emod_of_nonneg hr00]; exact HJE.out
          have f3 : r0 % 128 = (j : Int) := HJE.out
          have f4 : (j : Int) < 128 := by have := HJ.out; omega
          have f5 : (0 : Int) ≤ (j : Int) := by omega
          have f6 : bits .xor .u8 x r1 = y := HY.out.2.2.symm
          obtain ⟨q, hq⟩ : ∃ q, q = y3.heap.size := ⟨_, rfl⟩
          have hQ3 := HQ3.out
          rw [← hq] at HA1 cS zS hQ3 ⊢
          have HQ := Aside0.mk hQ3
          have HSL2 := Aside0.mk (show (S.set j y).length = 128 ∧ Byt (S.set j y) by
            refine ⟨by rw [List.length_set]; exact HS.out.1, fun z hz => ?_⟩
            rcases List.mem_or_eq_of_mem_set hz with h | rfl
            · exact HS.out.2 z h
            · exact HY.out.1)
          obtain ⟨v7', hv7⟩ : ∃ v, v = v7 := ⟨_, rfl⟩
          obtain ⟨A7, c7, rfl⟩ := Kd.R_slice HALL.out
          obtain ⟨nB, hnB⟩ : ∃ n, n = (G.take (i + 1)).flatten.length := ⟨_, rfl⟩
          rw [← hnB] at HALL ⊢
          clear hv7 v7' hQ3 hq hrb hnB
          go_region
          go_upto_region 26 with (fail)
          have xa := Kd.R_drew (Kd.R_set HALL.out HA1.out (t := 52) (fun z hz => by rcases List.mem_cons.1 hz with rfl | hz; exact (by decide); rw [celE_u8 hz]; decide) j (.int .u8 y))
          have x1 := AB_set HA1.out j y
          have xb := below_drew (HB.out.setCell (p := ⟨q, j, none⟩) HQ.out (.int .u8 y))
          obtain ⟨y8, hy8⟩ : ∃ W, W = (y7.setCell ⟨q, j, none⟩ (.int .u8 y)).drew := ⟨_, rfl⟩
          replace x1 : AB y8 q 52 (S.set j y) := by rw [hy8]; exact x1
          rw [← hy8] at xa xb ⊢
          clear HALL HA1 HB hy8 cr0 cr1 cS zS hr00 f1 f2 f3 f4 f5 f6
          have HALL := Aside0.mk xa
          have HA1 := Aside0.mk x1
          have HB := Aside0.mk xb
          clear xa x1 xb
          by_cases hz : r1 = 0
          · have HU2 := Aside0.mk (show unsealP (p : Int) (S.set j y) = some (gen, encAll g) by rw [HY.out.2.1.2 hz, HSAME.out]; exact HUS.out)
            have fz : ((r1 : Int) == 0) = true := beq_iff_eq.2 hz
            clear hz
            go_upto_region 27 with (first
              | ((with_reducible refine gate_ (.load 52 (.tmp 13)) rfl ?_); go_must (refine loadA rfl 52 (.tmp 13) rfl q 128 5 rfl (S.set j y) HA1.out (by kernel_rfl) (by rw [HSL2.out.1]; exact (zero_of_info infoSec).2) ?_))
              | (go_at_call 21; go_must ((refine (unpack_any L p HP.out (S.set j y) HSL2.out.1 HSL2.out.2 _).mono ?_); rintro e y9 ⟨g9, v9, ok9, rfl, hb, ht9⟩; rw [HU2.out] at ht9; obtain ⟨hg9, rfl, ho9⟩ := ht9; have xo := Kd.R_below HALL.out hb; have xb := HB.out.trans (hb.mono HB.out.size); clear HALL HB hb hg9; have HALL := Aside0.mk xo; have HB := Aside0.mk xb; clear xo xb)))
            obtain ⟨A9, c9, rfl⟩ := Kd.R_slice ho9
            clear ho9
            have cr1 := AB_cell (AB_kept HRB2.out HB.out) 1 (by simp)
            rw [show nth [r0, r1] 1 = r1 from rfl] at cr1
            go_wp2
            go_roundg (gk - 1)
            case measure => omega
            case rel => exact ⟨i + 1, by go_num, by omega, HALL, HB⟩
          · have HU2 := Aside0.mk (show unsealP (p : Int) (S.set j y) = none from HROT.out y HY.out.1 (fun h => hz (HY.out.2.1.1 h.symm)))
            have fz : ((r1 : Int) == 0) = false := beq_eq_false_iff_ne.2 hz
            have fz2 : ¬ (r1 = 0) := hz
            clear hz
            go_upto_region 27 with (first
              | ((with_reducible refine gate_ (.load 52 (.tmp 13)) rfl ?_); go_must (refine loadA rfl 52 (.tmp 13) rfl q 128 5 rfl (S.set j y) HA1.out (by kernel_rfl) (by rw [HSL2.out.1]; exact (zero_of_info infoSec).2) ?_))
              | (go_at_call 21; go_must ((refine (unpack_any L p HP.out (S.set j y) HSL2.out.1 HSL2.out.2 _).mono ?_); rintro e y9 ⟨g9, v9, ok9, rfl, hb, ht9⟩; rw [HU2.out] at ht9; obtain ⟨hg9, rfl, rfl⟩ := ht9; have xo := Kd.R_below HALL.out hb; have xb := HB.out.trans (hb.mono HB.out.size); clear HALL HB hb hg9; have HALL := Aside0.mk xo; have HB := Aside0.mk xb; clear xo xb)))
            have cr1 := AB_cell (AB_kept HRB2.out HB.out) 1 (by simp)
            rw [show nth [r0, r1] 1 = r1 from rfl] at cr1
            go_wp2
            go_roundg (gk - 1)
            case measure => omega
            case rel => exact ⟨i + 1, by go_num, by omega, HALL, HB⟩
        · have HAE := Aside0.mk (show (G.take i).flatten = l by rw [List.take_of_length_le (by have := HNG.out; omega)]; exact HGRP.out.flat)
          rw [HAE.out] at HALL
          obtain ⟨A7, c7, rfl⟩ := Kd.R_slice HALL.out
          go_wp2_with (go_at_call 18; go_must (refine (same13_yes A7 B0 l.length l.length c7 bc l _ (Kd.R_reads' HALL.out).2.2 (Kd.C_below HR.out HB.out) (fun x hx => (HT.out x hx).wf.2.2)).mono ?_; rintro e y9 ⟨rfl, hb⟩; replace HB := Aside0.mk (HB.out.trans (hb.mono HB.out.size)); clear hb))
          go_ret
          exact ⟨rfl, HB0.out.trans (HB.out.mono HB0.out.size)⟩
theorem opensTwo : Opens Try.prog 50 (ArB 2) (fun x => ∀ y ∈ x.1, (Lit.int .u8 y).wf = true) := opens_arr (n := 2) (e := 5) (by kernel_rfl) (by kernel_rfl) (by kernel_rfl) (by kernel_rfl)
theorem sealed_law2 (B0 : Option Addr) (n0 bc : Nat) (l : List Cel) (gen : Int) (r : Ar 2) (cs : Array Value) (w : World) (hr : Kd.C CelD w B0 n0 l) (ht : ∀ x ∈ l, CelTy x) (hg0 : 0 ≤ gen ∧ gen < 2 ^ 64) (hcs : (ArB 2).K w r cs.toList) (hy : ∀ y ∈ r.1, (Lit.int .u8 y).wf = true) :
    Calls Try.prog 8 #[.slice B0 n0 bc, .int .u64 gen, .agg cs] w fun e w' => e = .returned (.bool true) ∧ Below w.heap.size w w' := by
  obtain ⟨l2, hl2⟩ := r
  match l2, hl2, hcs, hy with
  | [a, b], hl2, hcs, hy =>
    rw [agg_arr hcs]
    exact sealed_law B0 n0 bc l gen a b w hr ht hg0 (wf_u8 (hy a (by simp))) (wf_u8 (hy b (by simp)))
end Go.Proofs.Ytghcnipehgjegaa.Cell
