/- What pack.Fill answers. Conditions stand in each statement. -/
import Derived.Test.YtghcnipehgjegaaPackPlain
import Derived.Test.YtghcnipehgjegaaCellList
namespace Go.Proofs.Ytghcnipehgjegaa.Cell
open Go.RowKit Go.Proofs.YtghcnipehgjegaaW.PrintWords Go.Proofs.YtghcnipehgjegaaW.PrintLast Go.Proofs.YtghcnipehgjegaaW.PrintMore Go.Proofs.Ytghcnipehgjegaa.Kit Go.Proofs.Ytghcnipehgjegaa.Plain Go.Proofs.Ytghcnipehgjegaa.Wire
set_option linter.unusedVariables false
set_option linter.unusedSimpArgs false
theorem infoInt : (Try.prog.info? 3).map (fun i => (i.zero, i.size, i.bytes)) = some (some (.int .i64 0), 1, 8) := by kernel_rfl
/-- The bodies: rows of one's own, no two in one block. -/
abbrev OwS (w : World) (base : Nat) (v : Value) (B : List (List Int)) : Prop := Kd.S Rw 28 w base (fun _ => True) v B
/-- Numbers of one's own. -/
abbrev OwI (w : World) (base : Nat) (v : Value) (l : List Int) : Prop := Kd.R (Kd.int .i64) 3 w base (fun _ => True) v l
/-- An append to a row of bytes, or a store into a row of rows, leaves numbers. -/
theorem OwI.over {W w1 : World} {base t : Nat} {v u : Value} {l : List Int} (h : OwI W base u l) (hty : ∀ k, v.ownBlock = some k → ∃ cells, W.heap[k]? = some (.cells cells t (0, 0))) (ht : 3 ≠ t) (hg : W.grownBy w1 v.ownBlock) : OwI w1 base u l :=
  Kd.R_over' h hty (fun q hq => by simp only [Kd.int, Kd.scalar, List.mem_singleton] at hq; subst hq; exact ht) hg
/-- An append to a row of numbers leaves bodies. -/
theorem OwS.over {W w1 : World} {base : Nat} {v u : Value} {B : List (List Int)} (h : OwS W base u B) (hty : ∀ k, v.ownBlock = some k → ∃ cells, W.heap[k]? = some (.cells cells 3 (0, 0))) (hg : W.grownBy w1 v.ownBlock) : OwS w1 base u B :=
  Kd.S_over' h hty (fun q hq => by
    have : q = 28 ∨ q = 5 := by simpa [Rw, Kd.slice, Kd.int, Kd.scalar] using hq
    rcases this with rfl | rfl <;> decide) hg
theorem OwB.over {W w1 : World} {base : Nat} {v u : Value} {l : List Int} (h : OwB W base u l) (hty : ∀ k, v.ownBlock = some k → ∃ cells, W.heap[k]? = some (.cells cells 28 (0, 0))) (hg : W.grownBy w1 v.ownBlock) : OwB w1 base u l :=
  Kd.R_over' h hty (fun q hq => by simp only [Kd.int, Kd.scalar, List.mem_singleton] at hq; subst hq; decide) hg
theorem C_len2 {W : World} {base n c : Nat} {A : Option Addr} {l : List Int} (h : OwB W base (.slice A n c) l) (hn : l.length = n) : Kd.C (Kd.int .u8) W A n l := by
  subst hn
  exact (Kd.R_reads' h).2.2
/-- The element that grows is lent, and is put back. -/
theorem lend_grown {W w1 : World} {base g n c k : Nat} {B : List (List Int)} {oki : Nat → Prop} {v v1 : Value} {x : List Int} (hH : Kd.H Rw 28 W base (fun _ => True) (.slice (some ⟨g, 0, none⟩) n c) B (k : Int) oki [v]) (hR : Kd.R (Kd.int .u8) 5 W base oki v x) {x1 : List Int}
    (hr1 : OwB w1 base v1 x1) (hg : W.grownBy w1 v.ownBlock) (hat : v1.ownBlock = v.ownBlock ∨ ∃ b, v1.ownBlock = some b ∧ W.heap.size ≤ b) :
    Kd.H Rw 28 w1 base (fun _ => True) (.slice (some ⟨g, 0, none⟩) n c) B (k : Int) (fun k => oki k ∨ True ∧ W.heap.size ≤ k) [v] ∧ Kd.R (Kd.int .u8) 5 w1 base (fun k => oki k ∨ True ∧ W.heap.size ≤ k) v1 x1 := by
  refine ⟨Kd.H_grown (Kd.H_widen hH) hg (fun k hk => Or.inl (hR.1 k hk)), Kd.R_mono (Kd.R_tight rfl hr1) (fun k hk => ?_)⟩
  rcases hat with hat | ⟨b, hb, hbb⟩
  · exact Or.inl (hR.1 k (by rw [← hat]; exact hk.symm))
  · rw [hb] at hk
    injection hk with hk
    subst hk
    exact Or.inr ⟨trivial, hbb⟩
theorem Ow_sliceP {w : World} {base : Nat} {v : Value} {l : List Int} (h : OwB w base v l) : ∃ A n c, v = .slice A n c ∧ n ≤ c ∧ RdN w A n l := by
  obtain ⟨A, c, rfl, h1, h2⟩ := Ow_slice h
  exact ⟨A, _, c, rfl, h1, h2⟩
theorem snoc_set (B : List (List Int)) (y : List Int) : (B ++ [[]]).set B.length (nthR (B ++ [[]]) B.length ++ y) = B ++ [y] := by
  rw [nthR_last, List.nil_append, List.set_append_right _ _ (Nat.le_refl _)]
  simp
theorem setR {B : List (List Int)} {k : Nat} (y : List Int) : B.set ((k : Nat) : Int).toNat y = B.set k y := rfl
theorem nthR_get {B : List (List Int)} {K : Nat} (h : K < B.length) : nthR B K = B[K] := by simp [nthR, h]
/-- Where a body's slice stands. -/
theorem body_cell {W : World} {base g n c : Nat} {B : List (List Int)} (h : OwS W base (.slice (some ⟨g, 0, none⟩) n c) B) (K : Nat) (hK : K < n) : ∃ A k, W.cell? ⟨g, K, none⟩ = some (.slice A (nthR B K).length k) := by
  obtain ⟨oki, cB, hcl, hM, hcc, _⟩ := Kd.S_elem h [] (K : Int) (by omega) (by omega)
  obtain ⟨vB, rfl, hvR⟩ := hM
  obtain ⟨AB, kB, hv⟩ := Kd.R_slice hvR
  refine ⟨AB, kB, ?_⟩
  have h0 := hcc 0 _ rfl
  rw [hv] at h0
  have e : (K : Int).toNat * (Rw).sz + 0 = K := by show (K : Int).toNat * 1 + 0 = K; simp
  rw [e] at h0
  exact h0
/-- The last body, lent. -/
theorem body_lend {W : World} {base g n c : Nat} {B : List (List Int)} (h : OwS W base (.slice (some ⟨g, 0, none⟩) n c) B) (K : Nat) (hK : K < n) :
    ∃ oki A k, W.cell? ⟨g, K, none⟩ = some (.slice A (nthR B K).length k) ∧ W.frozen? ⟨g, K, none⟩ = false ∧ Kd.R (Kd.int .u8) 5 W base oki (.slice A (nthR B K).length k) (nthR B K) ∧ Kd.H Rw 28 W base (fun _ => True) (.slice (some ⟨g, 0, none⟩) n c) B (K : Int) oki [.slice A (nthR B K).length k] := by
  obtain ⟨oki, cB, hcl, hM, hcc, hfr, hoki, hH⟩ := Kd.S_elem h [] (K : Int) (by omega) (by omega)
  obtain ⟨vB, rfl, hvR⟩ := hM
  obtain ⟨AB, kB, rfl⟩ := Kd.R_slice hvR
  have e : (K : Int).toNat * (Rw).sz + 0 = K := by show (K : Int).toNat * 1 + 0 = K; simp
  have h0 := hcc 0 _ rfl
  have f0 := hfr 0
  rw [e] at h0 f0
  exact ⟨oki, AB, kB, h0, f0, hvR, hH⟩
theorem grp_num {B : List (List Int)} {K : Nat} {y : List Int} (h : B.length = K + 1) : (((B.set K y).length - 1 : Nat) : Int) = (K : Int) := by rw [List.length_set, h]; rfl
set_option maxHeartbeats 6400000 in
set_option maxRecDepth 100000 in
theorem fill_gen (B0 : Option Addr) (n0 bc : Nat) (l : List Cel) (w : World) (hr : Kd.C CelD w B0 n0 l) (ht : ∀ x ∈ l, CelTy x) (hl : n0 ≤ 1000) (m : Nat) (hm : m ≤ n0) (hR : ∀ i, i < m → rightB (gdC l i) = true) (hbad : m = n0 ∨ rightB (gdC l m) = false) :
    Calls Try.prog 11 #[.slice B0 n0 bc] w fun e w' => ((m = n0 → ∃ v2 v3, e = .returned (.tuple #[v2, v3, .int .i64 0]) ∧ OwS w' w.heap.size v2 (fillP (l.map encS)).1 ∧ OwI w' w.heap.size v3 (fillP (l.map encS)).2) ∧ (m < n0 → e = .returned (.tuple #[.slice none 0 0, .slice none 0 0, .int .i64 3]))) ∧ Below w.heap.size w w' := by
  obtain rfl := Kd.C_len hr
  have hmx := Kd.C_max hr
  have HR := Aside0.mk hr
  have HT := Aside0.mk ht
  have HRT := Aside0.mk hR
  have HBAD := Aside0.mk hbad
  have HL := Aside0.mk hl
  clear hr ht hR hbad
  have HB := Aside0.mk (Below.refl w.heap.size w)
  go_enter Try.func11, Try.ntmps11
  go_wp2
  go_loopg [2, 3, 13] l.length (fun gk v2 v3 v13 w' => ∃ (i : Nat), v13 = .int .i64 (i : Int) ∧ i + gk = l.length ∧ i ≤ m ∧ Aside0 (OwS w' w.heap.size v2 (fillP ((l.map encS).take i)).1) ∧ Aside0 (OwI w' w.heap.size v3 (fillP ((l.map encS).take i)).2) ∧ Aside0 (Below w.heap.size w w'))
  case atStart => exact ⟨0, rfl, by omega, Nat.zero_le _, ⟨Kd.S_nil _ _ _ _ _⟩, ⟨Kd.R_nil _ _ _ _ _⟩, HB⟩
  case round =>
    clear HB
    obtain ⟨i, rfl, hi, him, HS, HI, HB⟩ := hrel
    by_cases hltm : i < m
    · have hlt : i < l.length := by omega
      obtain ⟨ad, A, c, rfl, hcel, hcap, hra⟩ := cel_row HR.out i hlt
      obtain ⟨x, hx⟩ : ∃ x, x = gdC l i := ⟨_, rfl⟩
      have htx : CelTy x := hx ▸ HT.out _ (gdC_mem hlt)
      have hrx : rightB x = true := hx ▸ HRT.out _ hltm
      have HE := Aside0.mk (show nthR (l.map encS) i = encS x by rw [hx]; simp [nthR, gdC, hlt])
      rw [← hx] at hcel hcap hra
      obtain ⟨c0, c1, c2, c3, c4, c5, c6, c7, c8, c9, c10⟩ := CelIn.below hcel HB.out
      have HCI := Aside0.mk hcel
      have HRA := Aside0.mk hra
      have HTX := Aside0.mk htx
      have HRX := Aside0.mk hrx
      have HEL := Aside0.mk (encS_len x htx.wf hrx)
      have hmx' := C_max hra
      have hi0 : 0 ≤ (i : Int) := by omega
      have hi1 : (i : Int) < (l.length : Int) := by omega
      obtain ⟨s, hs⟩ : ∃ s, s = fillP ((l.map encS).take i) := ⟨_, rfl⟩
      have hsl := fillP_lens ((l.map encS).take i)
      rw [← hs] at HS HI hsl
      have HSP := Aside0.mk (show fillP ((l.map encS).take (i + 1)) = stepP s (encS x) by rw [takeR_snoc (by simpa using hlt), fillP_snoc, ← hs, HE.out])
      have HFI := Aside0.mk (show ∀ p ∈ s.1, p.length ≤ 103 by
        rw [hs]
        refine fillP_fits (fun y hy => ?_)
        rw [← List.map_take] at hy
        obtain ⟨z, hz, rfl⟩ := List.mem_map.1 hy
        obtain ⟨q, hq, rfl⟩ := List.mem_take_iff_getElem.1 hz
        have hql : q < l.length := by omega
        have hqr : rightB l[q] = true := by have := HRT.out q (by omega); simpa [gdC, hql] using this
        have := (encS_len _ (HT.out _ (List.getElem_mem hql)).wf hqr).2.1
        omega)
      have HIM := Aside0.mk hltm
      obtain ⟨B, I⟩ := s
      simp only at HS HI hsl HFI
      have hbl : B.length ≤ 1000 := by have := hsl.1; rw [List.length_take] at this; have := HL.out; omega
      have hil : I.length ≤ 1000 := by have := hsl.2; rw [List.length_take] at this; have := HL.out; omega
      clear hcel hcap hra htx hx hrx hs hsl
      go_upto_region 5 with (go_at_call 25; go_must (refine (encode_yes x A c _ (Kd.C_below HRA.out (HB.out.alloc HB.out.size _)) HTX.out.wf HRX.out).mono ?_; rintro e y7 ⟨⟨v7, rfl, ho⟩, hb⟩; have hb9 := (Below.refl wr.heap.size wr).alloc (Nat.le_refl _) (.cells (celA x A c) 30); replace ho := Kd.R_lower ho (Nat.le_trans HB.out.size hb9.size); replace hb := hb9.trans (hb.mono hb9.size); obtain ⟨A7, n7, c7', rfl, hk7, hr7⟩ := Ow_sliceP ho; have HO7 := Aside0.mk ho; have HN7 := Aside0.mk (C_len hr7); have hn7 : n7 ≤ 46 := (by have := HEL.out.2.1; have := C_len hr7; omega); replace HS := Aside0.mk (Kd.S_below HS.out hb); replace HI := Aside0.mk (Kd.R_below HI.out hb); replace HB := Aside0.mk (HB.out.trans (hb.mono HB.out.size)); clear hb hb9 ho hk7 hr7))
      clear c0 c1 c2 c3 c4 c5 c6 c7 c8 c9 c10
      obtain ⟨A2, c2, rfl⟩ := Kd.S_slice HS.out
      obtain ⟨nB, hnB⟩ : ∃ n, n = B.length := ⟨_, rfl⟩
      rw [← hnB] at HS ⊢
      have hnb1 : nB ≤ 1000 := by omega
      by_cases hB0 : nB = 0
      · have q1 : ((nB : Int) == 0) = true := by rw [hB0]; rfl
        have HST := Aside0.mk (show stepB B (encS x) = (B ++ [[]]).set nB (nthR (B ++ [[]]) nB ++ encS x) by rw [stepB, if_pos (Or.inl (by omega)), hnB]; exact (snoc_set B (encS x)).symm)
        subst hB0
        have HNB := Aside0.mk hnB
        clear hnB
        go_upto_region 10 with ((with_reducible refine gate_builtin (b := .append) (xs := #[.tmp 40, .tmp 41]) rfl ?_); at_builtin; go_must (refine Kd.S_append Rw (w0 := w) w.heap.size rfl (.tmp 40) (.tmp 41) 31 28 (.slice none 0 0) 24 rfl Try.underlying31 infoRow rfl (by decide) (by omega) _ B [] [.slice none 0 0] (fun _ => True) (fun _ => False) rfl rfl ⟨_, rfl, Kd.R_nil _ _ _ _ _⟩ (fun _ hk => hk.elim) (fun _ _ => trivial) (Kd.S_mono HS.out (fun _ _ => ⟨trivial, fun h => h⟩)) HB.out HB.out.size (by have := HNB.out; omega) ?_; intro v42 w42 ho hb hg hat; replace HI := Aside0.mk (OwI.over HI.out (Kd.S_typed HS.out) (by decide) hg); replace HO7 := Aside0.mk (OwB.over HO7.out (Kd.S_typed HS.out) hg); clear HS HB; have HB := Aside0.mk hb; obtain ⟨A42, c42, rfl⟩ := Kd.S_slice ho; obtain ⟨n1, hn1⟩ : ∃ n, n = (B ++ [[]]).length := ⟨_, rfl⟩; rw [← hn1] at ho ⊢; have HN1 := Aside0.mk (show n1 = 0 + 1 by rw [hn1, HNB.out]; simp); obtain ⟨adB2, rfl, _⟩ := (Kd.S_reads' ho).2.2.2.2 (by rw [← hn1, HN1.out]; omega); obtain ⟨g2, rfl⟩ := Kd.R_head (Kd.S_R ho); have HS := Aside0.mk ho; clear ho hb hg hat hn1))
        have HBL := Aside0.mk (show (B ++ [[]]).length = 0 + 1 by rw [HNB.out]; simp)
        clear q1
        (try clear q2)
        (try clear hcK e1 e2 e3 hK0 hK1)
        have d1 : (n1 : Int) - 1 = (0 : Int) := by have := HN1.out; omega
        have d2 : IntKind.i64.wrap (0 : Int) = (0 : Int) := IntWalk.i64_in _ (by have := HN1.out; omega)
        have d3 : 0 ≤ (0 : Int) := by omega
        have d4 : (0 : Int) < (n1 : Int) := by have := HN1.out; omega
        obtain ⟨oki, AL, kL, hcL, hfL, hvR, hH⟩ := body_lend HS.out 0 (by have := HN1.out; omega)
        have HVR := Aside0.mk hvR
        have HH := Aside0.mk hH
        obtain ⟨cells_, hct⟩ := Kd.S_typed HS.out g2 rfl
        have HNE := Aside0.mk (Kd.R_ne HI.out hct (by decide))
        have HLL := Aside0.mk (show (nthR (B ++ [[]]) 0).length ≤ 103 by rw [HNB.out, nthR_last]; simp)
        obtain ⟨lL, hlL⟩ : ∃ n, n = (nthR (B ++ [[]]) 0).length := ⟨_, rfl⟩
        rw [← hlL] at hcL HVR HH HLL
        have HLE := Aside0.mk hlL
        clear hvR hH hct hlL
        go_wp2_with (first
          | ((with_reducible refine gate_dst (N := 53) rfl ?_); go_must (refine appB w.heap.size rfl (.tmp 51) (.tmp 52) rfl rfl _ (nthR (B ++ [[]]) 0) (encS x) A7 n7 c7' rfl rfl (Kd.R_mono HVR.out (fun _ _ => trivial)) (C_len2 HO7.out HN7.out) HB.out HB.out.size (by rw [← HLE.out]; have := HLL.out; omega) ?_; intro v53 w53 ho hb hg hat; have hl2 := lend_grown HH.out HVR.out ho hg hat; replace HI := Aside0.mk (OwI.over HI.out (Kd.R_typed HVR.out) (by decide) hg); clear hcL HS HH; have HL2 := Aside0.mk hl2; clear HB; have HB := Aside0.mk hb; clear ho hb hg hat hl2))
          | ((with_reducible refine gate_ (.store 28 (.tmp 54) (.tmp 53)) rfl ?_); go_must (refine Kd.H_store Rw (w0 := w) w.heap.size rfl rfl 28 (.tmp 54) (.tmp 53) rfl 28 (0 : Int) 0 (B ++ [[]]) (nthR (B ++ [[]]) 0 ++ encS x) v53 [v53] [.slice AL lL kL] (fun _ => True) _ _ rfl (show 0 = (0 : Int).toNat * 1 + 0 by simp) rfl (Kd.R_val HL2.out.2).1 (by kernel_rfl) (fun q hq => by rw [List.mem_singleton] at hq; subst hq; exact (Kd.R_val HL2.out.2).2) HL2.out.1 (by omega) (by have := HN1.out; omega) (Nat.le_refl 1) ⟨v53, rfl, HL2.out.2⟩ (fun _ h => h) HB.out ?_; intro w54 hs hb hg; have HS := Aside0.mk hs; replace HI := Aside0.mk (Kd.R_grown2 HI.out rfl hg (fun k hk => by injection hk with hk; subst hk; exact HNE.out)); clear HB; have HB := Aside0.mk hb; clear hs hb hg))
          | ((with_reducible refine gate_builtin (b := .append) (xs := #[.tmp 55, .tmp 57]) rfl ?_); at_builtin; go_must (refine Kd.R_append (Kd.int .i64) (w0 := w) w.heap.size rfl (.tmp 55) (.tmp 57) 32 3 (.int .i64 0) 8 rfl Try.underlying32 infoInt rfl (by decide) (by omega) _ I (0 : Int) [.int .i64 (0 : Int)] (fun _ => True) (fun _ => False) rfl rfl rfl (fun _ hk => hk.elim) (fun _ _ => trivial) HI.out HB.out HB.out.size (by omega) ?_; intro v58 w58 ho hb hg hat; replace HS := Aside0.mk (OwS.over HS.out (Kd.R_typed HI.out) hg); clear HI HB; have HI := Aside0.mk ho; have HB := Aside0.mk hb; clear ho hb hg hat)))
        go_roundg (gk - 1)
        case measure => omega
        case rel => exact ⟨i + 1, by go_num, by omega, HIM.out, ⟨by rw [HSP.out]; show OwS _ _ _ (stepB B (encS x)); rw [HST.out]; exact HS.out⟩, ⟨by rw [HSP.out]; show OwI _ _ _ (I ++ [(((stepB B (encS x)).length - 1 : Nat) : Int)]); rw [HST.out, grp_num HBL.out]; exact HI.out⟩, HB⟩
      have q1 : ((nB : Int) == 0) = false := beq_eq_false_iff_ne.2 (by omega)
      obtain ⟨K, hK⟩ : ∃ K, nB = K + 1 := ⟨nB - 1, by omega⟩
      obtain ⟨adB, rfl, _⟩ := (Kd.S_reads' HS.out).2.2.2.2 (by omega)
      obtain ⟨g, rfl⟩ := Kd.R_head (Kd.S_R HS.out)
      obtain ⟨AB, kB, hcK⟩ := body_cell HS.out K (by omega)
      have hlb : (nthR B K).length ≤ 103 := HFI.out _ (by rw [nthR_get (show K < B.length by omega)]; exact List.getElem_mem _)
      obtain ⟨lb, hlbe⟩ : ∃ n, n = (nthR B K).length := ⟨_, rfl⟩
      rw [← hlbe] at hcK hlb
      have e1 : (nB : Int) - 1 = (K : Int) := by omega
      have e2 : IntKind.i64.wrap (K : Int) = (K : Int) := IntWalk.i64_in _ (by omega)
      have e3 : IntKind.i64.wrap ((lb : Int) + (n7 : Int)) = (lb : Int) + (n7 : Int) := IntWalk.i64_in _ (by omega)
      have hK0 : 0 ≤ (K : Int) := by omega
      have hK1 : (K : Int) < (nB : Int) := by omega
      have HLB := Aside0.mk hlbe
      have HNB := Aside0.mk hnB
      have HK := Aside0.mk hK
      by_cases hgt : 103 < lb + n7
      · have q2 : (lb : Int) + (n7 : Int) > 103 := by omega
        have HST := Aside0.mk (show stepB B (encS x) = (B ++ [[]]).set nB (nthR (B ++ [[]]) nB ++ encS x) by rw [stepB, if_pos (Or.inr (by rw [← hnB, show nB - 1 = K by omega, ← hlbe, HN7.out]; exact hgt)), hnB]; exact (snoc_set B (encS x)).symm)
        clear hgt hlbe hK hnB
        go_upto_region 10 with ((with_reducible refine gate_builtin (b := .append) (xs := #[.tmp 40, .tmp 41]) rfl ?_); at_builtin; go_must (refine Kd.S_append Rw (w0 := w) w.heap.size rfl (.tmp 40) (.tmp 41) 31 28 (.slice none 0 0) 24 rfl Try.underlying31 infoRow rfl (by decide) (by omega) _ B [] [.slice none 0 0] (fun _ => True) (fun _ => False) rfl rfl ⟨_, rfl, Kd.R_nil _ _ _ _ _⟩ (fun _ hk => hk.elim) (fun _ _ => trivial) (Kd.S_mono HS.out (fun _ _ => ⟨trivial, fun h => h⟩)) HB.out HB.out.size (by have := HNB.out; omega) ?_; intro v42 w42 ho hb hg hat; replace HI := Aside0.mk (OwI.over HI.out (Kd.S_typed HS.out) (by decide) hg); replace HO7 := Aside0.mk (OwB.over HO7.out (Kd.S_typed HS.out) hg); clear HS HB; have HB := Aside0.mk hb; obtain ⟨A42, c42, rfl⟩ := Kd.S_slice ho; obtain ⟨n1, hn1⟩ : ∃ n, n = (B ++ [[]]).length := ⟨_, rfl⟩; rw [← hn1] at ho ⊢; have HN1 := Aside0.mk (show n1 = nB + 1 by rw [hn1, HNB.out]; simp); obtain ⟨adB2, rfl, _⟩ := (Kd.S_reads' ho).2.2.2.2 (by rw [← hn1, HN1.out]; omega); obtain ⟨g2, rfl⟩ := Kd.R_head (Kd.S_R ho); have HS := Aside0.mk ho; clear ho hb hg hat hn1))
        have HBL := Aside0.mk (show (B ++ [[]]).length = nB + 1 by rw [HNB.out]; simp)
        clear q1
        (try clear q2)
        (try clear hcK e1 e2 e3 hK0 hK1)
        have d1 : (n1 : Int) - 1 = (nB : Int) := by have := HN1.out; omega
        have d2 : IntKind.i64.wrap (nB : Int) = (nB : Int) := IntWalk.i64_in _ (by have := HN1.out; omega)
        have d3 : 0 ≤ (nB : Int) := by omega
        have d4 : (nB : Int) < (n1 : Int) := by have := HN1.out; omega
        obtain ⟨oki, AL, kL, hcL, hfL, hvR, hH⟩ := body_lend HS.out nB (by have := HN1.out; omega)
        have HVR := Aside0.mk hvR
        have HH := Aside0.mk hH
        obtain ⟨cells_, hct⟩ := Kd.S_typed HS.out g2 rfl
        have HNE := Aside0.mk (Kd.R_ne HI.out hct (by decide))
        have HLL := Aside0.mk (show (nthR (B ++ [[]]) nB).length ≤ 103 by rw [HNB.out, nthR_last]; simp)
        obtain ⟨lL, hlL⟩ : ∃ n, n = (nthR (B ++ [[]]) nB).length := ⟨_, rfl⟩
        rw [← hlL] at hcL HVR HH HLL
        have HLE := Aside0.mk hlL
        clear hvR hH hct hlL
        go_wp2_with (first
          | ((with_reducible refine gate_dst (N := 53) rfl ?_); go_must (refine appB w.heap.size rfl (.tmp 51) (.tmp 52) rfl rfl _ (nthR (B ++ [[]]) nB) (encS x) A7 n7 c7' rfl rfl (Kd.R_mono HVR.out (fun _ _ => trivial)) (C_len2 HO7.out HN7.out) HB.out HB.out.size (by rw [← HLE.out]; have := HLL.out; omega) ?_; intro v53 w53 ho hb hg hat; have hl2 := lend_grown HH.out HVR.out ho hg hat; replace HI := Aside0.mk (OwI.over HI.out (Kd.R_typed HVR.out) (by decide) hg); clear hcL HS HH; have HL2 := Aside0.mk hl2; clear HB; have HB := Aside0.mk hb; clear ho hb hg hat hl2))
          | ((with_reducible refine gate_ (.store 28 (.tmp 54) (.tmp 53)) rfl ?_); go_must (refine Kd.H_store Rw (w0 := w) w.heap.size rfl rfl 28 (.tmp 54) (.tmp 53) rfl 28 (nB : Int) 0 (B ++ [[]]) (nthR (B ++ [[]]) nB ++ encS x) v53 [v53] [.slice AL lL kL] (fun _ => True) _ _ rfl (show nB = (nB : Int).toNat * 1 + 0 by simp) rfl (Kd.R_val HL2.out.2).1 (by kernel_rfl) (fun q hq => by rw [List.mem_singleton] at hq; subst hq; exact (Kd.R_val HL2.out.2).2) HL2.out.1 (by omega) (by have := HN1.out; omega) (Nat.le_refl 1) ⟨v53, rfl, HL2.out.2⟩ (fun _ h => h) HB.out ?_; intro w54 hs hb hg; have HS := Aside0.mk hs; replace HI := Aside0.mk (Kd.R_grown2 HI.out rfl hg (fun k hk => by injection hk with hk; subst hk; exact HNE.out)); clear HB; have HB := Aside0.mk hb; clear hs hb hg))
          | ((with_reducible refine gate_builtin (b := .append) (xs := #[.tmp 55, .tmp 57]) rfl ?_); at_builtin; go_must (refine Kd.R_append (Kd.int .i64) (w0 := w) w.heap.size rfl (.tmp 55) (.tmp 57) 32 3 (.int .i64 0) 8 rfl Try.underlying32 infoInt rfl (by decide) (by omega) _ I (nB : Int) [.int .i64 (nB : Int)] (fun _ => True) (fun _ => False) rfl rfl rfl (fun _ hk => hk.elim) (fun _ _ => trivial) HI.out HB.out HB.out.size (by omega) ?_; intro v58 w58 ho hb hg hat; replace HS := Aside0.mk (OwS.over HS.out (Kd.R_typed HI.out) hg); clear HI HB; have HI := Aside0.mk ho; have HB := Aside0.mk hb; clear ho hb hg hat)))
        go_roundg (gk - 1)
        case measure => omega
        case rel => exact ⟨i + 1, by go_num, by omega, HIM.out, ⟨by rw [HSP.out]; show OwS _ _ _ (stepB B (encS x)); rw [HST.out]; exact HS.out⟩, ⟨by rw [HSP.out]; show OwI _ _ _ (I ++ [(((stepB B (encS x)).length - 1 : Nat) : Int)]); rw [HST.out, grp_num HBL.out]; exact HI.out⟩, HB⟩
      · have q2 : ¬ (lb : Int) + (n7 : Int) > 103 := by omega
        have HST := Aside0.mk (show stepB B (encS x) = B.set K (nthR B K ++ encS x) by rw [stepB, if_neg (by rw [← hnB, show nB - 1 = K by omega, ← hlbe, HN7.out]; omega), ← hnB, show nB - 1 = K by omega])
        have HBL := Aside0.mk (show B.length = K + 1 by omega)
        clear hgt hlbe hK hnB
        go_upto_region 10 with (fail)
        have HKB := Aside0.mk (show K ≤ 1000 ∧ nB = K + 1 by have := HK.out; omega)
        clear hcK e1 e2 e3 hK0 hK1 q1 q2
        have d1 : (nB : Int) - 1 = (K : Int) := by have := HKB.out; omega
        have d2 : IntKind.i64.wrap (K : Int) = (K : Int) := IntWalk.i64_in _ (by have := HKB.out; omega)
        have d3 : 0 ≤ (K : Int) := by omega
        have d4 : (K : Int) < (nB : Int) := by have := HKB.out; omega
        obtain ⟨oki, AL, kL, hcL, hfL, hvR, hH⟩ := body_lend HS.out K (by have := HKB.out; omega)
        have HVR := Aside0.mk hvR
        have HH := Aside0.mk hH
        obtain ⟨cells_, hct⟩ := Kd.S_typed HS.out g rfl
        have HNE := Aside0.mk (Kd.R_ne HI.out hct (by decide))
        have HLL := Aside0.mk (show (nthR B K).length ≤ 103 by rw [← HLB.out]; exact hlb)
        obtain ⟨lL, hlL⟩ : ∃ n, n = (nthR B K).length := ⟨_, rfl⟩
        rw [← hlL] at hcL HVR HH HLL
        have HLE := Aside0.mk hlL
        clear hvR hH hct hlL
        go_wp2_with (first
          | ((with_reducible refine gate_dst (N := 53) rfl ?_); go_must (refine appB w.heap.size rfl (.tmp 51) (.tmp 52) rfl rfl _ (nthR B K) (encS x) A7 n7 c7' rfl rfl (Kd.R_mono HVR.out (fun _ _ => trivial)) (C_len2 HO7.out HN7.out) HB.out HB.out.size (by rw [← HLE.out]; have := HLL.out; omega) ?_; intro v53 w53 ho hb hg hat; have hl2 := lend_grown HH.out HVR.out ho hg hat; replace HI := Aside0.mk (OwI.over HI.out (Kd.R_typed HVR.out) (by decide) hg); clear hcL HS HH; have HL2 := Aside0.mk hl2; clear HB; have HB := Aside0.mk hb; clear ho hb hg hat hl2))
          | ((with_reducible refine gate_ (.store 28 (.tmp 54) (.tmp 53)) rfl ?_); go_must (refine Kd.H_store Rw (w0 := w) w.heap.size rfl rfl 28 (.tmp 54) (.tmp 53) rfl 28 (K : Int) 0 B (nthR B K ++ encS x) v53 [v53] [.slice AL lL kL] (fun _ => True) _ _ rfl (show K = (K : Int).toNat * 1 + 0 by simp) rfl (Kd.R_val HL2.out.2).1 (by kernel_rfl) (fun q hq => by rw [List.mem_singleton] at hq; subst hq; exact (Kd.R_val HL2.out.2).2) HL2.out.1 (by omega) (by have := HKB.out; omega) (Nat.le_refl 1) ⟨v53, rfl, HL2.out.2⟩ (fun _ h => h) HB.out ?_; intro w54 hs hb hg; have HS := Aside0.mk hs; replace HI := Aside0.mk (Kd.R_grown2 HI.out rfl hg (fun k hk => by injection hk with hk; subst hk; exact HNE.out)); clear HB; have HB := Aside0.mk hb; clear hs hb hg))
          | ((with_reducible refine gate_builtin (b := .append) (xs := #[.tmp 55, .tmp 57]) rfl ?_); at_builtin; go_must (refine Kd.R_append (Kd.int .i64) (w0 := w) w.heap.size rfl (.tmp 55) (.tmp 57) 32 3 (.int .i64 0) 8 rfl Try.underlying32 infoInt rfl (by decide) (by omega) _ I (K : Int) [.int .i64 (K : Int)] (fun _ => True) (fun _ => False) rfl rfl rfl (fun _ hk => hk.elim) (fun _ _ => trivial) HI.out HB.out HB.out.size (by omega) ?_; intro v58 w58 ho hb hg hat; replace HS := Aside0.mk (OwS.over HS.out (Kd.R_typed HI.out) hg); clear HI HB; have HI := Aside0.mk ho; have HB := Aside0.mk hb; clear ho hb hg hat)))
        go_roundg (gk - 1)
        case measure => omega
        case rel => exact ⟨i + 1, by go_num, by omega, HIM.out, ⟨by rw [HSP.out]; show OwS _ _ _ (stepB B (encS x)); rw [HST.out]; exact HS.out⟩, ⟨by rw [HSP.out]; show OwI _ _ _ (I ++ [(((stepB B (encS x)).length - 1 : Nat) : Int)]); rw [HST.out, grp_num HBL.out]; exact HI.out⟩, HB⟩
    · obtain rfl : m = i := by omega
      by_cases hlt : m < l.length
      · obtain ⟨ad, A, c, rfl, hcel, hcap, hra⟩ := cel_row HR.out m hlt
        obtain ⟨x, hx⟩ : ∃ x, x = gdC l m := ⟨_, rfl⟩
        have htx : CelTy x := hx ▸ HT.out _ (gdC_mem hlt)
        have hrx : rightB x = false := by rw [hx]; exact HBAD.out.resolve_left (by omega)
        rw [← hx] at hcel hcap hra
        obtain ⟨c0, c1, c2, c3, c4, c5, c6, c7, c8, c9, c10⟩ := CelIn.below hcel HB.out
        have HRA := Aside0.mk hra
        have HTX := Aside0.mk htx
        have HRX := Aside0.mk hrx
        have hmx' := C_max hra
        have hi0 : 0 ≤ (m : Int) := by omega
        have hi1 : (m : Int) < (l.length : Int) := by omega
        clear hcel hcap hra htx hx hrx
        go_wp2_with (go_at_call 25; go_must (refine (encode_no x A c _ (Kd.C_below HRA.out (HB.out.alloc HB.out.size _)) HTX.out.wf.2.2 HRX.out).mono ?_; rintro e y7 ⟨rfl, hb⟩; replace HB := Aside0.mk ((HB.out.alloc HB.out.size (.cells (celA x A c) 30)).trans (hb.mono (HB.out.alloc HB.out.size (.cells (celA x A c) 30)).size)); clear hb))
        go_ret3
        exact ⟨⟨fun h => by omega, fun _ => rfl⟩, HB.out⟩
      · have HT2 := Aside0.mk (show (l.map encS).take m = l.map encS from List.take_of_length_le (by simp; omega))
        go_wp2
        go_ret3
        rw [HT2.out] at HS HI
        exact ⟨⟨fun _ => ⟨_, _, rfl, HS.out, HI.out⟩, fun h => by omega⟩, HB.out⟩
theorem fill_any (B0 : Option Addr) (n0 bc : Nat) (l : List Cel) (w : World) (hr : Kd.C CelD w B0 n0 l) (ht : ∀ x ∈ l, CelTy x) (hl : n0 ≤ 1000) (hR : ∀ x ∈ l, rightB x = true) :
    Calls Try.prog 11 #[.slice B0 n0 bc] w fun e w' => (∃ v2 v3, e = .returned (.tuple #[v2, v3, .int .i64 0]) ∧ OwS w' w.heap.size v2 (fillP (l.map encS)).1 ∧ OwI w' w.heap.size v3 (fillP (l.map encS)).2) ∧ Below w.heap.size w w' := by
  refine (fill_gen B0 n0 bc l w hr ht hl n0 (Nat.le_refl _) (fun i hi => hR _ (gdC_mem (by rw [Kd.C_len hr]; exact hi))) (Or.inl rfl)).mono ?_
  rintro e w' ⟨⟨h1, _⟩, hb⟩
  exact ⟨h1 rfl, hb⟩
/-- The first cell that may not be. -/
theorem first_bad : ∀ l : List Cel, (∃ x ∈ l, rightB x = false) → ∃ m, m < l.length ∧ (∀ i, i < m → rightB (gdC l i) = true) ∧ rightB (gdC l m) = false
  | [], h => by obtain ⟨x, hx, _⟩ := h; cases hx
  | x :: l, h => by
    cases hx : rightB x with
    | false => exact ⟨0, by simp, fun i hi => by omega, hx⟩
    | true =>
      obtain ⟨y, hy, hyr⟩ := h
      have hyl : y ∈ l := by
        rcases List.mem_cons.1 hy with rfl | hy
        · rw [hx] at hyr; cases hyr
        · exact hy
      obtain ⟨m, h1, h2, h3⟩ := first_bad l ⟨y, hyl, hyr⟩
      refine ⟨m + 1, by simpa using h1, fun i hi => ?_, h3⟩
      cases i with
      | zero => exact hx
      | succ i => exact h2 i (by omega)
theorem fill_no (B0 : Option Addr) (n0 bc : Nat) (l : List Cel) (w : World) (hr : Kd.C CelD w B0 n0 l) (ht : ∀ x ∈ l, CelTy x) (hl : n0 ≤ 1000) (hR : ∃ x ∈ l, rightB x = false) :
    Calls Try.prog 11 #[.slice B0 n0 bc] w fun e w' => e = .returned (.tuple #[.slice none 0 0, .slice none 0 0, .int .i64 3]) ∧ Below w.heap.size w w' := by
  obtain ⟨m, h1, h2, h3⟩ := first_bad l hR
  have hn := Kd.C_len hr
  refine (fill_gen B0 n0 bc l w hr ht hl m (by omega) h2 (Or.inr h3)).mono ?_
  rintro e w' ⟨⟨_, h⟩, hb⟩
  exact ⟨h (by omega), hb⟩
end Go.Proofs.Ytghcnipehgjegaa.Cell
