/- What erewhileref13.Fill answers. Conditions stand in each statement. -/
import Derived.Test.YtghcnipehgjegaaPackFill
import Derived.Test.YtghcnipehgjegaaCellRefAny
import Derived.Test.YtghcnipehgjegaaCellRefEnc
namespace Go.Proofs.Ytghcnipehgjegaa.Cell
open Go.RowKit Go.Proofs.YtghcnipehgjegaaW.PrintWords Go.Proofs.YtghcnipehgjegaaW.PrintLast Go.Proofs.YtghcnipehgjegaaW.PrintMore Go.Proofs.Ytghcnipehgjegaa.Kit Go.Proofs.Ytghcnipehgjegaa.Plain Go.Proofs.Ytghcnipehgjegaa.Wire
set_option linter.unusedVariables false
set_option linter.unusedSimpArgs false
theorem lend_over {W w1 : World} {base g n c k : Nat} {B : List (List Int)} {oki : Nat → Prop} {cs : List Value} {row : Option Nat} {sz : Nat} (hH : Kd.H Rw 28 W base (fun _ => True) (.slice (some ⟨g, 0, none⟩) n c) B (k : Int) (fun k => oki k ∨ True ∧ sz ≤ k) cs) (hg : W.grownBy w1 row) (hn : ∀ k, row = some k → sz ≤ k) :
    Kd.H Rw 28 w1 base (fun _ => True) (.slice (some ⟨g, 0, none⟩) n c) B (k : Int) (fun k => oki k ∨ True ∧ sz ≤ k) cs := Kd.H_grown hH hg (fun k hk => Or.inr ⟨trivial, hn k hk⟩)
theorem fresh_on {v v1 : Value} {sz n : Nat} (h : ∀ k, v.ownBlock = some k → sz ≤ k) (hat : v1.ownBlock = v.ownBlock ∨ ∃ b, v1.ownBlock = some b ∧ n ≤ b) (hs : sz ≤ n) : ∀ k, v1.ownBlock = some k → sz ≤ k := fun k hk => by
  rcases hat with hat | ⟨b, hb, hbb⟩
  · exact h k (hat ▸ hk)
  · rw [hb] at hk; injection hk with hk; omega
theorem fresh_own {W : World} {base sz : Nat} {v : Value} {x : List Int} {oki : Nat → Prop} (h : OwB W base v x) (hn : ∀ k, v.ownBlock = some k → sz ≤ k) : Kd.R (Kd.int .u8) 5 W base (fun k => oki k ∨ True ∧ sz ≤ k) v x :=
  Kd.R_mono (Kd.R_tight rfl h) (fun k hk => Or.inr ⟨trivial, hn k hk.symm⟩)
theorem OwI.overB {W w1 : World} {base b2 : Nat} {v u : Value} {l x : List Int} (h : OwI W base u l) (hv : OwB W b2 v x) (hg : W.grownBy w1 v.ownBlock) : OwI w1 base u l := OwI.over h (Kd.R_typed hv) (by decide) hg
set_option maxHeartbeats 6400000 in
set_option maxRecDepth 100000 in
theorem reffill_any (B0 : Option Addr) (n0 bc : Nat) (l : List Cel) (w : World) (hr : Kd.C CelD w B0 n0 l) (ht : ∀ x ∈ l, CelTy x) (hl : n0 ≤ 1000) (hR : ∀ x ∈ l, rightB x = true) :
    Calls Try.prog 13 #[.slice B0 n0 bc] w fun e w' => (∃ v2 v3, e = .returned (.tuple #[v2, v3, .bool true]) ∧ OwS w' w.heap.size v2 (fillP (l.map encS)).1 ∧ OwI w' w.heap.size v3 (fillP (l.map encS)).2) ∧ Below w.heap.size w w' := by
  obtain rfl := Kd.C_len hr
  have hmx := Kd.C_max hr
  have HR := Aside0.mk hr
  have HT := Aside0.mk ht
  have HRT := Aside0.mk hR
  have HL := Aside0.mk hl
  clear hr ht hR
  have HB := Aside0.mk (Below.refl w.heap.size w)
  go_enter Try.func13, Try.ntmps13
  go_wp2
  go_loopg [7] l.length (fun gk v w' => ∃ i : Nat, v = .int .i64 (i : Int) ∧ i + gk = l.length ∧ Aside0 (Below w.heap.size w w'))
  case atStart => exact ⟨0, rfl, by omega, HB⟩
  case round =>
    clear HB
    obtain ⟨i, rfl, hi, HB⟩ := hrel
    by_cases hlt : i < l.length
    · obtain ⟨ad, A, c, rfl, hcel, hcapx, hra⟩ := cel_row HR.out i hlt
      obtain ⟨x, hx⟩ : ∃ x, x = gdC l i := ⟨_, rfl⟩
      have htx : CelTy x := hx ▸ HT.out _ (gdC_mem hlt)
      have hrx : rightB x = true := hx ▸ HRT.out _ (gdC_mem hlt)
      rw [← hx] at hcel hcapx hra
      obtain ⟨c0, c1, c2, c3, c4, c5, c6, c7, c8, c9, c10⟩ := CelIn.below hcel HB.out
      have HRA := Aside0.mk hra
      have HTX := Aside0.mk htx
      have hmx' := C_max hra
      have hi0 : 0 ≤ (i : Int) := by omega
      have hi1 : (i : Int) < (l.length : Int) := by omega
      clear hcel hcapx hra htx hx
      go_wp2_with (go_at_call 10; go_must (refine (refright_any x A c _ (Kd.C_below HRA.out HB.out) HTX.out.wf.2.2).mono ?_; rintro e y7 ⟨rfl, hb⟩; rw [hrx]; replace HB := Aside0.mk (HB.out.trans (hb.mono HB.out.size)); clear hb))
      go_roundg (gk - 1)
      case measure => omega
      case rel => exact ⟨i + 1, by go_num, by omega, HB⟩
    · go_wp2
      clear hi hlt
      go_loopg [5, 6, 8] l.length (fun gk v2 v3 v13 w' => ∃ (i : Nat), v13 = .int .i64 (i : Int) ∧ i + gk = l.length ∧ Aside0 (OwS w' w.heap.size v2 (fillP ((l.map encS).take i)).1) ∧ Aside0 (OwI w' w.heap.size v3 (fillP ((l.map encS).take i)).2) ∧ Aside0 (Below w.heap.size w w'))
      case atStart => exact ⟨0, rfl, by omega, ⟨Kd.S_nil _ _ _ _ _⟩, ⟨Kd.R_nil _ _ _ _ _⟩, HB⟩
      case round =>
        clear HB
        obtain ⟨i, rfl, hi, HS, HI, HB⟩ := hrel
        by_cases hlt : i < l.length
        · obtain ⟨ad, A, c, rfl, hcel, hcap, hra⟩ := cel_row HR.out i hlt
          obtain ⟨x, hx⟩ : ∃ x, x = gdC l i := ⟨_, rfl⟩
          have htx : CelTy x := hx ▸ HT.out _ (gdC_mem hlt)
          have hrx : rightB x = true := hx ▸ HRT.out _ (gdC_mem hlt)
          have HE := Aside0.mk (show nthR (l.map encS) i = encS x by rw [hx]; simp [nthR, gdC, hlt])
          rw [← hx] at hcel hcap hra
          obtain ⟨c0, c1, c2, c3, c4, c5, c6, c7, c8, c9, c10⟩ := CelIn.below hcel HB.out
          have HCI := Aside0.mk hcel
          have HRA := Aside0.mk hra
          have HTX := Aside0.mk htx
          have HRX := Aside0.mk hrx
          have HEL := Aside0.mk (encS_len x htx.wf hrx)
          have hmx' := C_max hra
          have hi0 : 0 ≤ (i : Int) := by omega
          have hi1 : (i : Int) < (l.length : Int) := by omega
          obtain ⟨s, hs⟩ : ∃ s, s = fillP ((l.map encS).take i) := ⟨_, rfl⟩
          have hsl := fillP_lens ((l.map encS).take i)
          rw [← hs] at HS HI hsl
          have HSP := Aside0.mk (show fillP ((l.map encS).take (i + 1)) = stepP s (encS x) by rw [takeR_snoc (by simpa using hlt), fillP_snoc, ← hs, HE.out])
          have HFI := Aside0.mk (show ∀ p ∈ s.1, p.length ≤ 103 by
            rw [hs]
            refine fillP_fits (fun y hy => ?_)
            rw [← List.map_take] at hy
            obtain ⟨z, hz, rfl⟩ := List.mem_map.1 hy
            obtain ⟨q, hq, rfl⟩ := List.mem_take_iff_getElem.1 hz
            have hql : q < l.length := by omega
            have hqr : rightB l[q] = true := HRT.out _ (List.getElem_mem hql)
            have := (encS_len _ (HT.out _ (List.getElem_mem hql)).wf hqr).2.1
            omega)
          obtain ⟨B, I⟩ := s
          simp only at HS HI hsl HFI
          have hbl : B.length ≤ 1000 := by have := hsl.1; rw [List.length_take] at this; have := HL.out; omega
          have hil : I.length ≤ 1000 := by have := hsl.2; rw [List.length_take] at this; have := HL.out; omega
          clear hcel hcap hra htx hx hrx hs hsl
          go_upto_region 12 with (go_at_call 26; go_must (refine (refencode_any x A c _ (Kd.C_below HRA.out HB.out) HTX.out.wf HRX.out).mono ?_; rintro e y7 ⟨⟨v7, rfl, ho⟩, hb⟩; replace ho := Kd.R_lower ho HB.out.size; obtain ⟨A7, n7, c7', rfl, hk7, hr7⟩ := Ow_sliceP ho; have HO7 := Aside0.mk ho; have HN7 := Aside0.mk (C_len hr7); have hn7 : n7 ≤ 46 := (by have := HEL.out.2.1; have := C_len hr7; omega); replace HS := Aside0.mk (Kd.S_below HS.out hb); replace HI := Aside0.mk (Kd.R_below HI.out hb); replace HB := Aside0.mk (HB.out.trans (hb.mono HB.out.size)); clear hb ho hk7 hr7))
          clear c0 c1 c2 c3 c4 c5 c6 c7 c8 c9 c10
          obtain ⟨A2, c2, rfl⟩ := Kd.S_slice HS.out
          obtain ⟨nB, hnB⟩ : ∃ n, n = B.length := ⟨_, rfl⟩
          rw [← hnB] at HS ⊢
          have hnb1 : nB ≤ 1000 := by omega
          by_cases hB0 : nB = 0
          · have q0 : IntKind.i64.wrap (-1) = -1 := by decide
            have HST := Aside0.mk (show stepB B (encS x) = (B ++ [[]]).set nB (nthR (B ++ [[]]) nB ++ encS x) by rw [stepB, if_pos (Or.inl (by omega)), hnB]; exact (snoc_set B (encS x)).symm)
            subst hB0
            have HNB := Aside0.mk hnB
            clear hnB
            skip
            go_upto_region 16 with ((with_reducible refine gate_builtin (b := .append) (xs := #[.tmp 50, .tmp 51]) rfl ?_); at_builtin; go_must (refine Kd.S_append Rw (w0 := w) w.heap.size rfl (.tmp 50) (.tmp 51) 31 28 (.slice none 0 0) 24 rfl Try.underlying31 infoRow rfl (by decide) (by omega) _ B [] [.slice none 0 0] (fun _ => True) (fun _ => False) rfl rfl ⟨_, rfl, Kd.R_nil _ _ _ _ _⟩ (fun _ hk => hk.elim) (fun _ _ => trivial) (Kd.S_mono HS.out (fun _ _ => ⟨trivial, fun h => h⟩)) HB.out HB.out.size (by have := HNB.out; omega) ?_; intro v42 w42 ho hb hg hat; replace HI := Aside0.mk (OwI.over HI.out (Kd.S_typed HS.out) (by decide) hg); replace HO7 := Aside0.mk (OwB.over HO7.out (Kd.S_typed HS.out) hg); clear HS HB; have HB := Aside0.mk hb; obtain ⟨A42, c42, rfl⟩ := Kd.S_slice ho; obtain ⟨n1, hn1⟩ : ∃ n, n = (B ++ [[]]).length := ⟨_, rfl⟩; rw [← hn1] at ho ⊢; have HN1 := Aside0.mk (show n1 = 0 + 1 by rw [hn1, HNB.out]; simp); obtain ⟨adB2, rfl, _⟩ := (Kd.S_reads' ho).2.2.2.2 (by rw [← hn1, HN1.out]; omega); obtain ⟨g2, rfl⟩ := Kd.R_head (Kd.S_R ho); have HS := Aside0.mk ho; clear ho hb hg hat hn1))
            have HBL := Aside0.mk (show (B ++ [[]]).length = 0 + 1 by rw [HNB.out]; simp)
            (try clear q0)
            (try clear q2)
            (try clear hcK e1 e2 e3 hK0 hK1 e7 e8)
            have d2 : IntKind.i64.wrap (0 : Int) = (0 : Int) := IntWalk.i64_in _ (by have := HN1.out; omega)
            have d3 : 0 ≤ (0 : Int) := by omega
            have d4 : (0 : Int) < (n1 : Int) := by have := HN1.out; omega
            obtain ⟨oki, AL, kL, hcL, hfL, hvR, hH⟩ := body_lend HS.out 0 (by have := HN1.out; omega)
            have HVR := Aside0.mk (Kd.R_reads' hvR).2.2
            obtain ⟨wz, hwz⟩ : ∃ n, n = w42.heap.size := ⟨_, rfl⟩
            have HH := Aside0.mk (Kd.H_widen hH)
            rw [← hwz] at HH
            have HWZ := Aside0.mk hwz
            obtain ⟨cells_, hct⟩ := Kd.S_typed HS.out g2 rfl
            have HNE := Aside0.mk (Kd.R_ne HI.out hct (by decide))
            have HLL := Aside0.mk (show (nthR (B ++ [[]]) 0).length ≤ 103 by rw [HNB.out, nthR_last]; simp)
            have H7N := Aside0.mk (show ∀ k, (Value.slice A7 n7 c7').ownBlock = some k → k < wz from fun k hk => by rw [hwz]; exact Kd.R_lt HO7.out k hk)
            obtain ⟨lL, hlL⟩ : ∃ n, n = (nthR (B ++ [[]]) 0).length := ⟨_, rfl⟩
            rw [← hlL] at hcL HVR HH HLL
            have HLE := Aside0.mk hlL
            clear hvR hH hct hlL hwz
            go_wp2_with (first
              | ((with_reducible refine gate_dst (N := 57) rfl ?_); go_must (refine litB w.heap.size rfl (N := 57) rfl [] ?hr HB.out HB.out.size (by simp) ?_; (case hr => first | (go_simp; done) | (go_simp; rfl)); intro v57 w57 ho hb0 hn hb; have HF := Aside0.mk (show ∀ k, v57.ownBlock = some k → wz ≤ k from fun k hk => by obtain ⟨b_, h1, h2⟩ := hn; rw [h1] at hk; injection hk with hk; rw [HWZ.out]; omega); replace HVR := Aside0.mk (Kd.C_below HVR.out hb); replace HH := Aside0.mk (Kd.H_below HH.out hb); replace HI := Aside0.mk (Kd.R_below HI.out hb); replace HO7 := Aside0.mk (Kd.R_below HO7.out hb); have HZ := Aside0.mk (show wz ≤ w57.heap.size by rw [HWZ.out]; exact hb.size); replace hcL := pw_cell_below hb hcL; clear HB; have HB := Aside0.mk hb0; have HO := Aside0.mk ho; clear ho hb0 hn hb))
              | ((with_reducible refine gate_dst (N := 62) rfl ?_); go_must (refine appB w.heap.size rfl (.tmp 57) (.tmp 61) rfl rfl _ [] (nthR (B ++ [[]]) 0) AL _ kL rfl rfl HO.out HVR.out HB.out HB.out.size (by have := HLL.out; simp; omega) ?_; intro v62 w62 ho hb hg hat; replace HH := Aside0.mk (lend_over HH.out hg HF.out); replace HI := Aside0.mk (OwI.overB HI.out HO.out hg); replace HO7 := Aside0.mk (Kd.R_grown2 HO7.out rfl hg (fun k hk he => by have h1 := HF.out k hk; have h2 := H7N.out k he.symm; omega)); replace HF := Aside0.mk (fresh_on HF.out hat HZ.out); replace HZ := Aside0.mk (Nat.le_trans HZ.out hg.size); clear HB HO; have HB := Aside0.mk hb; have HO := Aside0.mk ho; clear ho hb hg hat))
              | ((with_reducible refine gate_dst (N := 64) rfl ?_); go_must (refine appB w.heap.size rfl (.tmp 62) (.tmp 63) rfl rfl _ ([] ++ nthR (B ++ [[]]) 0) (encS x) A7 n7 c7' rfl rfl HO.out (C_len2 HO7.out HN7.out) HB.out HB.out.size (by rw [List.nil_append, ← HLE.out]; have := HLL.out; omega) ?_; intro v64 w64 ho hb hg hat; replace HH := Aside0.mk (lend_over HH.out hg HF.out); replace HI := Aside0.mk (OwI.overB HI.out HO.out hg); replace HO7 := Aside0.mk (Kd.R_grown2 HO7.out rfl hg (fun k hk he => by have h1 := HF.out k hk; have h2 := H7N.out k he.symm; omega)); replace HF := Aside0.mk (fresh_on HF.out hat HZ.out); replace HZ := Aside0.mk (Nat.le_trans HZ.out hg.size); clear HB HO; have HB := Aside0.mk hb; have HO := Aside0.mk ho; clear ho hb hg hat))
              | ((with_reducible refine gate_ (.store 28 (.tmp 65) (.tmp 64)) rfl ?_); go_must (refine Kd.H_store Rw (w0 := w) w.heap.size rfl rfl 28 (.tmp 65) (.tmp 64) rfl 28 (0 : Int) 0 (B ++ [[]]) ([] ++ nthR (B ++ [[]]) 0 ++ encS x) v64 [v64] _ (fun _ => True) _ _ rfl (show 0 = (0 : Int).toNat * 1 + 0 by simp) rfl (Kd.R_val HO.out).1 (by kernel_rfl) (fun q hq => by rw [List.mem_singleton] at hq; subst hq; exact (Kd.R_val HO.out).2) HH.out (by omega) (by have := HN1.out; omega) (Nat.le_refl 1) ⟨v64, rfl, fresh_own HO.out HF.out⟩ (fun _ h => h) HB.out ?_; intro w65 hs hb hg; have HS := Aside0.mk hs; replace HI := Aside0.mk (Kd.R_grown2 HI.out rfl hg (fun k hk => by injection hk with hk; subst hk; exact HNE.out)); clear HB; have HB := Aside0.mk hb; clear hs hb hg))
              | ((with_reducible refine gate_builtin (b := .append) (xs := #[.tmp 66, .tmp 68]) rfl ?_); at_builtin; go_must (refine Kd.R_append (Kd.int .i64) (w0 := w) w.heap.size rfl (.tmp 66) (.tmp 68) 32 3 (.int .i64 0) 8 rfl Try.underlying32 infoInt rfl (by decide) (by omega) _ I (0 : Int) [.int .i64 (0 : Int)] (fun _ => True) (fun _ => False) rfl rfl rfl (fun _ hk => hk.elim) (fun _ _ => trivial) HI.out HB.out HB.out.size (by omega) ?_; intro v58 w58 ho hb hg hat; replace HS := Aside0.mk (OwS.over HS.out (Kd.R_typed HI.out) hg); clear HI HB; have HI := Aside0.mk ho; have HB := Aside0.mk hb; clear ho hb hg hat)))
            go_roundg (gk - 1)
            case measure => omega
            case rel => exact ⟨i + 1, by go_num, by omega, ⟨by rw [HSP.out]; show OwS _ _ _ (stepB B (encS x)); rw [HST.out]; exact HS.out⟩, ⟨by rw [HSP.out]; show OwI _ _ _ (I ++ [(((stepB B (encS x)).length - 1 : Nat) : Int)]); rw [HST.out, grp_num HBL.out]; exact HI.out⟩, HB⟩
          obtain ⟨K, hK⟩ : ∃ K, nB = K + 1 := ⟨nB - 1, by omega⟩
          obtain ⟨adB, rfl, _⟩ := (Kd.S_reads' HS.out).2.2.2.2 (by omega)
          obtain ⟨g, rfl⟩ := Kd.R_head (Kd.S_R HS.out)
          obtain ⟨AB, kB, hcK⟩ := body_cell HS.out K (by omega)
          have hlb : (nthR B K).length ≤ 103 := HFI.out _ (by rw [nthR_get (show K < B.length by omega)]; exact List.getElem_mem _)
          obtain ⟨lb, hlbe⟩ : ∃ n, n = (nthR B K).length := ⟨_, rfl⟩
          rw [← hlbe] at hcK hlb
          have e1 : (nB : Int) - 1 = (K : Int) := by omega
          have e2 : IntKind.i64.wrap (K : Int) = (K : Int) := IntWalk.i64_in _ (by omega)
          have e3 : IntKind.i64.wrap ((lb : Int) + (n7 : Int)) = (lb : Int) + (n7 : Int) := IntWalk.i64_in _ (by omega)
          have hK0 : 0 ≤ (K : Int) := by omega
          have hK1 : (K : Int) < (nB : Int) := by omega
          have HLB := Aside0.mk hlbe
          have HNB := Aside0.mk hnB
          have HK := Aside0.mk hK
          by_cases hgt : 103 < lb + n7
          · have q2 : (lb : Int) + (n7 : Int) > 103 := by omega
            have HST := Aside0.mk (show stepB B (encS x) = (B ++ [[]]).set nB (nthR (B ++ [[]]) nB ++ encS x) by rw [stepB, if_pos (Or.inr (by rw [← hnB, show nB - 1 = K by omega, ← hlbe, HN7.out]; exact hgt)), hnB]; exact (snoc_set B (encS x)).symm)
            clear hgt hlbe hK hnB
            have e7 : (K : Int) + 1 = (nB : Int) := by have := HK.out; omega
            have e8 : IntKind.i64.wrap (nB : Int) = (nB : Int) := IntWalk.i64_in _ (by omega)
            go_upto_region 16 with ((with_reducible refine gate_builtin (b := .append) (xs := #[.tmp 50, .tmp 51]) rfl ?_); at_builtin; go_must (refine Kd.S_append Rw (w0 := w) w.heap.size rfl (.tmp 50) (.tmp 51) 31 28 (.slice none 0 0) 24 rfl Try.underlying31 infoRow rfl (by decide) (by omega) _ B [] [.slice none 0 0] (fun _ => True) (fun _ => False) rfl rfl ⟨_, rfl, Kd.R_nil _ _ _ _ _⟩ (fun _ hk => hk.elim) (fun _ _ => trivial) (Kd.S_mono HS.out (fun _ _ => ⟨trivial, fun h => h⟩)) HB.out HB.out.size (by have := HNB.out; omega) ?_; intro v42 w42 ho hb hg hat; replace HI := Aside0.mk (OwI.over HI.out (Kd.S_typed HS.out) (by decide) hg); replace HO7 := Aside0.mk (OwB.over HO7.out (Kd.S_typed HS.out) hg); clear HS HB; have HB := Aside0.mk hb; obtain ⟨A42, c42, rfl⟩ := Kd.S_slice ho; obtain ⟨n1, hn1⟩ : ∃ n, n = (B ++ [[]]).length := ⟨_, rfl⟩; rw [← hn1] at ho ⊢; have HN1 := Aside0.mk (show n1 = nB + 1 by rw [hn1, HNB.out]; simp); obtain ⟨adB2, rfl, _⟩ := (Kd.S_reads' ho).2.2.2.2 (by rw [← hn1, HN1.out]; omega); obtain ⟨g2, rfl⟩ := Kd.R_head (Kd.S_R ho); have HS := Aside0.mk ho; clear ho hb hg hat hn1))
            have HBL := Aside0.mk (show (B ++ [[]]).length = nB + 1 by rw [HNB.out]; simp)
            (try clear q0)
            (try clear q2)
            (try clear hcK e1 e2 e3 hK0 hK1 e7 e8)
            have d2 : IntKind.i64.wrap (nB : Int) = (nB : Int) := IntWalk.i64_in _ (by have := HN1.out; omega)
            have d3 : 0 ≤ (nB : Int) := by omega
            have d4 : (nB : Int) < (n1 : Int) := by have := HN1.out; omega
            obtain ⟨oki, AL, kL, hcL, hfL, hvR, hH⟩ := body_lend HS.out nB (by have := HN1.out; omega)
            have HVR := Aside0.mk (Kd.R_reads' hvR).2.2
            obtain ⟨wz, hwz⟩ : ∃ n, n = w42.heap.size := ⟨_, rfl⟩
            have HH := Aside0.mk (Kd.H_widen hH)
            rw [← hwz] at HH
            have HWZ := Aside0.mk hwz
            obtain ⟨cells_, hct⟩ := Kd.S_typed HS.out g2 rfl
            have HNE := Aside0.mk (Kd.R_ne HI.out hct (by decide))
            have HLL := Aside0.mk (show (nthR (B ++ [[]]) nB).length ≤ 103 by rw [HNB.out, nthR_last]; simp)
            have H7N := Aside0.mk (show ∀ k, (Value.slice A7 n7 c7').ownBlock = some k → k < wz from fun k hk => by rw [hwz]; exact Kd.R_lt HO7.out k hk)
            obtain ⟨lL, hlL⟩ : ∃ n, n = (nthR (B ++ [[]]) nB).length := ⟨_, rfl⟩
            rw [← hlL] at hcL HVR HH HLL
            have HLE := Aside0.mk hlL
            clear hvR hH hct hlL hwz
            go_wp2_with (first
              | ((with_reducible refine gate_dst (N := 57) rfl ?_); go_must (refine litB w.heap.size rfl (N := 57) rfl [] ?hr HB.out HB.out.size (by simp) ?_; (case hr => first | (go_simp; done) | (go_simp; rfl)); intro v57 w57 ho hb0 hn hb; have HF := Aside0.mk (show ∀ k, v57.ownBlock = some k → wz ≤ k from fun k hk => by obtain ⟨b_, h1, h2⟩ := hn; rw [h1] at hk; injection hk with hk; rw [HWZ.out]; omega); replace HVR := Aside0.mk (Kd.C_below HVR.out hb); replace HH := Aside0.mk (Kd.H_below HH.out hb); replace HI := Aside0.mk (Kd.R_below HI.out hb); replace HO7 := Aside0.mk (Kd.R_below HO7.out hb); have HZ := Aside0.mk (show wz ≤ w57.heap.size by rw [HWZ.out]; exact hb.size); replace hcL := pw_cell_below hb hcL; clear HB; have HB := Aside0.mk hb0; have HO := Aside0.mk ho; clear ho hb0 hn hb))
              | ((with_reducible refine gate_dst (N := 62) rfl ?_); go_must (refine appB w.heap.size rfl (.tmp 57) (.tmp 61) rfl rfl _ [] (nthR (B ++ [[]]) nB) AL _ kL rfl rfl HO.out HVR.out HB.out HB.out.size (by have := HLL.out; simp; omega) ?_; intro v62 w62 ho hb hg hat; replace HH := Aside0.mk (lend_over HH.out hg HF.out); replace HI := Aside0.mk (OwI.overB HI.out HO.out hg); replace HO7 := Aside0.mk (Kd.R_grown2 HO7.out rfl hg (fun k hk he => by have h1 := HF.out k hk; have h2 := H7N.out k he.symm; omega)); replace HF := Aside0.mk (fresh_on HF.out hat HZ.out); replace HZ := Aside0.mk (Nat.le_trans HZ.out hg.size); clear HB HO; have HB := Aside0.mk hb; have HO := Aside0.mk ho; clear ho hb hg hat))
              | ((with_reducible refine gate_dst (N := 64) rfl ?_); go_must (refine appB w.heap.size rfl (.tmp 62) (.tmp 63) rfl rfl _ ([] ++ nthR (B ++ [[]]) nB) (encS x) A7 n7 c7' rfl rfl HO.out (C_len2 HO7.out HN7.out) HB.out HB.out.size (by rw [List.nil_append, ← HLE.out]; have := HLL.out; omega) ?_; intro v64 w64 ho hb hg hat; replace HH := Aside0.mk (lend_over HH.out hg HF.out); replace HI := Aside0.mk (OwI.overB HI.out HO.out hg); replace HO7 := Aside0.mk (Kd.R_grown2 HO7.out rfl hg (fun k hk he => by have h1 := HF.out k hk; have h2 := H7N.out k he.symm; omega)); replace HF := Aside0.mk (fresh_on HF.out hat HZ.out); replace HZ := Aside0.mk (Nat.le_trans HZ.out hg.size); clear HB HO; have HB := Aside0.mk hb; have HO := Aside0.mk ho; clear ho hb hg hat))
              | ((with_reducible refine gate_ (.store 28 (.tmp 65) (.tmp 64)) rfl ?_); go_must (refine Kd.H_store Rw (w0 := w) w.heap.size rfl rfl 28 (.tmp 65) (.tmp 64) rfl 28 (nB : Int) 0 (B ++ [[]]) ([] ++ nthR (B ++ [[]]) nB ++ encS x) v64 [v64] _ (fun _ => True) _ _ rfl (show nB = (nB : Int).toNat * 1 + 0 by simp) rfl (Kd.R_val HO.out).1 (by kernel_rfl) (fun q hq => by rw [List.mem_singleton] at hq; subst hq; exact (Kd.R_val HO.out).2) HH.out (by omega) (by have := HN1.out; omega) (Nat.le_refl 1) ⟨v64, rfl, fresh_own HO.out HF.out⟩ (fun _ h => h) HB.out ?_; intro w65 hs hb hg; have HS := Aside0.mk hs; replace HI := Aside0.mk (Kd.R_grown2 HI.out rfl hg (fun k hk => by injection hk with hk; subst hk; exact HNE.out)); clear HB; have HB := Aside0.mk hb; clear hs hb hg))
              | ((with_reducible refine gate_builtin (b := .append) (xs := #[.tmp 66, .tmp 68]) rfl ?_); at_builtin; go_must (refine Kd.R_append (Kd.int .i64) (w0 := w) w.heap.size rfl (.tmp 66) (.tmp 68) 32 3 (.int .i64 0) 8 rfl Try.underlying32 infoInt rfl (by decide) (by omega) _ I (nB : Int) [.int .i64 (nB : Int)] (fun _ => True) (fun _ => False) rfl rfl rfl (fun _ hk => hk.elim) (fun _ _ => trivial) HI.out HB.out HB.out.size (by omega) ?_; intro v58 w58 ho hb hg hat; replace HS := Aside0.mk (OwS.over HS.out (Kd.R_typed HI.out) hg); clear HI HB; have HI := Aside0.mk ho; have HB := Aside0.mk hb; clear ho hb hg hat)))
            go_roundg (gk - 1)
            case measure => omega
            case rel => exact ⟨i + 1, by go_num, by omega, ⟨by rw [HSP.out]; show OwS _ _ _ (stepB B (encS x)); rw [HST.out]; exact HS.out⟩, ⟨by rw [HSP.out]; show OwI _ _ _ (I ++ [(((stepB B (encS x)).length - 1 : Nat) : Int)]); rw [HST.out, grp_num HBL.out]; exact HI.out⟩, HB⟩
          · have q2 : ¬ (lb : Int) + (n7 : Int) > 103 := by omega
            have HST := Aside0.mk (show stepB B (encS x) = B.set K (nthR B K ++ encS x) by rw [stepB, if_neg (by rw [← hnB, show nB - 1 = K by omega, ← hlbe, HN7.out]; omega), ← hnB, show nB - 1 = K by omega])
            have HBL := Aside0.mk (show B.length = K + 1 by omega)
            clear hgt hlbe hK hnB
            go_upto_region 16 with (fail)
            have HKB := Aside0.mk (show K ≤ 1000 ∧ nB = K + 1 by have := HK.out; omega)
            clear hcK e1 e2 e3 hK0 hK1 q2
            have d2 : IntKind.i64.wrap (K : Int) = (K : Int) := IntWalk.i64_in _ (by have := HKB.out; omega)
            have d3 : 0 ≤ (K : Int) := by omega
            have d4 : (K : Int) < (nB : Int) := by have := HKB.out; omega
            obtain ⟨oki, AL, kL, hcL, hfL, hvR, hH⟩ := body_lend HS.out K (by have := HKB.out; omega)
            have HVR := Aside0.mk (Kd.R_reads' hvR).2.2
            obtain ⟨wz, hwz⟩ : ∃ n, n = y7.heap.size := ⟨_, rfl⟩
            have HH := Aside0.mk (Kd.H_widen hH)
            rw [← hwz] at HH
            have HWZ := Aside0.mk hwz
            obtain ⟨cells_, hct⟩ := Kd.S_typed HS.out g rfl
            have HNE := Aside0.mk (Kd.R_ne HI.out hct (by decide))
            have HLL := Aside0.mk (show (nthR B K).length ≤ 103 by rw [← HLB.out]; exact hlb)
            have H7N := Aside0.mk (show ∀ k, (Value.slice A7 n7 c7').ownBlock = some k → k < wz from fun k hk => by rw [hwz]; exact Kd.R_lt HO7.out k hk)
            obtain ⟨lL, hlL⟩ : ∃ n, n = (nthR B K).length := ⟨_, rfl⟩
            rw [← hlL] at hcL HVR HH HLL
            have HLE := Aside0.mk hlL
            clear hvR hH hct hlL hwz
            go_wp2_with (first
              | ((with_reducible refine gate_dst (N := 57) rfl ?_); go_must (refine litB w.heap.size rfl (N := 57) rfl [] ?hr HB.out HB.out.size (by simp) ?_; (case hr => first | (go_simp; done) | (go_simp; rfl)); intro v57 w57 ho hb0 hn hb; have HF := Aside0.mk (show ∀ k, v57.ownBlock = some k → wz ≤ k from fun k hk => by obtain ⟨b_, h1, h2⟩ := hn; rw [h1] at hk; injection hk with hk; rw [HWZ.out]; omega); replace HVR := Aside0.mk (Kd.C_below HVR.out hb); replace HH := Aside0.mk (Kd.H_below HH.out hb); replace HI := Aside0.mk (Kd.R_below HI.out hb); replace HO7 := Aside0.mk (Kd.R_below HO7.out hb); have HZ := Aside0.mk (show wz ≤ w57.heap.size by rw [HWZ.out]; exact hb.size); replace hcL := pw_cell_below hb hcL; clear HB; have HB := Aside0.mk hb0; have HO := Aside0.mk ho; clear ho hb0 hn hb))
              | ((with_reducible refine gate_dst (N := 62) rfl ?_); go_must (refine appB w.heap.size rfl (.tmp 57) (.tmp 61) rfl rfl _ [] (nthR B K) AL _ kL rfl rfl HO.out HVR.out HB.out HB.out.size (by have := HLL.out; simp; omega) ?_; intro v62 w62 ho hb hg hat; replace HH := Aside0.mk (lend_over HH.out hg HF.out); replace HI := Aside0.mk (OwI.overB HI.out HO.out hg); replace HO7 := Aside0.mk (Kd.R_grown2 HO7.out rfl hg (fun k hk he => by have h1 := HF.out k hk; have h2 := H7N.out k he.symm; omega)); replace HF := Aside0.mk (fresh_on HF.out hat HZ.out); replace HZ := Aside0.mk (Nat.le_trans HZ.out hg.size); clear HB HO; have HB := Aside0.mk hb; have HO := Aside0.mk ho; clear ho hb hg hat))
              | ((with_reducible refine gate_dst (N := 64) rfl ?_); go_must (refine appB w.heap.size rfl (.tmp 62) (.tmp 63) rfl rfl _ ([] ++ nthR B K) (encS x) A7 n7 c7' rfl rfl HO.out (C_len2 HO7.out HN7.out) HB.out HB.out.size (by rw [List.nil_append, ← HLE.out]; have := HLL.out; omega) ?_; intro v64 w64 ho hb hg hat; replace HH := Aside0.mk (lend_over HH.out hg HF.out); replace HI := Aside0.mk (OwI.overB HI.out HO.out hg); replace HO7 := Aside0.mk (Kd.R_grown2 HO7.out rfl hg (fun k hk he => by have h1 := HF.out k hk; have h2 := H7N.out k he.symm; omega)); replace HF := Aside0.mk (fresh_on HF.out hat HZ.out); replace HZ := Aside0.mk (Nat.le_trans HZ.out hg.size); clear HB HO; have HB := Aside0.mk hb; have HO := Aside0.mk ho; clear ho hb hg hat))
              | ((with_reducible refine gate_ (.store 28 (.tmp 65) (.tmp 64)) rfl ?_); go_must (refine Kd.H_store Rw (w0 := w) w.heap.size rfl rfl 28 (.tmp 65) (.tmp 64) rfl 28 (K : Int) 0 B ([] ++ nthR B K ++ encS x) v64 [v64] _ (fun _ => True) _ _ rfl (show K = (K : Int).toNat * 1 + 0 by simp) rfl (Kd.R_val HO.out).1 (by kernel_rfl) (fun q hq => by rw [List.mem_singleton] at hq; subst hq; exact (Kd.R_val HO.out).2) HH.out (by omega) (by have := HKB.out; omega) (Nat.le_refl 1) ⟨v64, rfl, fresh_own HO.out HF.out⟩ (fun _ h => h) HB.out ?_; intro w65 hs hb hg; have HS := Aside0.mk hs; replace HI := Aside0.mk (Kd.R_grown2 HI.out rfl hg (fun k hk => by injection hk with hk; subst hk; exact HNE.out)); clear HB; have HB := Aside0.mk hb; clear hs hb hg))
              | ((with_reducible refine gate_builtin (b := .append) (xs := #[.tmp 66, .tmp 68]) rfl ?_); at_builtin; go_must (refine Kd.R_append (Kd.int .i64) (w0 := w) w.heap.size rfl (.tmp 66) (.tmp 68) 32 3 (.int .i64 0) 8 rfl Try.underlying32 infoInt rfl (by decide) (by omega) _ I (K : Int) [.int .i64 (K : Int)] (fun _ => True) (fun _ => False) rfl rfl rfl (fun _ hk => hk.elim) (fun _ _ => trivial) HI.out HB.out HB.out.size (by omega) ?_; intro v58 w58 ho hb hg hat; replace HS := Aside0.mk (OwS.over HS.out (Kd.R_typed HI.out) hg); clear HI HB; have HI := Aside0.mk ho; have HB := Aside0.mk hb; clear ho hb hg hat)))
            go_roundg (gk - 1)
            case measure => omega
            case rel => exact ⟨i + 1, by go_num, by omega, ⟨by rw [HSP.out]; show OwS _ _ _ (stepB B (encS x)); rw [HST.out]; exact HS.out⟩, ⟨by rw [HSP.out]; show OwI _ _ _ (I ++ [(((stepB B (encS x)).length - 1 : Nat) : Int)]); rw [HST.out, grp_num HBL.out]; exact HI.out⟩, HB⟩
    
        · have HT2 := Aside0.mk (show (l.map encS).take i = l.map encS from List.take_of_length_le (by simp; omega))
          go_wp2
          go_ret3
          rw [HT2.out] at HS HI
          exact ⟨⟨_, _, rfl, HS.out, HI.out⟩, HB.out⟩
end Go.Proofs.Ytghcnipehgjegaa.Cell
