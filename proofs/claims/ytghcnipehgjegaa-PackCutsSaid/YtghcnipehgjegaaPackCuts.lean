/- PackCuts answers true for every list of cells, every place and every byte more. No conditions. -/
import Derived.Test.YtghcnipehgjegaaPackAwake
import Derived.Test.YtghcnipehgjegaaPackOpen
import Derived.Test.YtghcnipehgjegaaPackSame
import Derived.Test.YtghcnipehgjegaaCellRefAny
namespace Go.Proofs.Ytghcnipehgjegaa.Plain
open Go
set_option linter.unusedVariables false
set_option linter.unusedSimpArgs false
/-- How many bytes the first cells have. -/
def lenA (l : List Cel) (i : Nat) : Nat := (encAll (l.take i)).length
theorem lenA_step {l : List Cel} {i : Nat} (h : i < l.length) : lenA l (i + 1) = lenA l i + (encS (gdC l i)).length := by rw [lenA, encAll_snoc h, List.length_append]; rfl
theorem lenA_mono {l : List Cel} (hl : FineL l) {i j : Nat} (hij : i < j) (hj : j ≤ l.length) : lenA l i < lenA l j := by
  obtain ⟨d, rfl⟩ : ∃ d, j = i + 1 + d := ⟨j - (i + 1), by omega⟩
  have hs : ∀ q, q < l.length → lenA l q + 7 ≤ lenA l (q + 1) := fun q hq => by
    have hm := hl _ (gdC_mem hq)
    have := (encS_len _ hm.1 hm.2).2.2
    rw [lenA_step hq]; omega
  induction d with
  | zero => have h1 := hs i (by omega); show lenA l i < lenA l (i + 1); omega
  | succ d ih =>
    have h1 := ih (by omega) (by omega)
    have h2 := hs (i + 1 + d) (by omega)
    have e : i + 1 + (d + 1) = i + 1 + d + 1 := by omega
    rw [e]; omega
theorem cut_opens {g : List Cel} (hf : FineL g) (hl : (encAll g).length ≤ 103) (hy : Byt (encAll g)) {k : Nat} (hk : k ≤ (encAll g).length) :
    (∀ j, j ≤ g.length → lenA g j = k → openR ((encAll g).take k) = some (g.take j)) ∧ ((∀ j, j ≤ g.length → lenA g j ≠ k) → openR ((encAll g).take k) = none) := by
  have hn : g.length ≤ (encAll g).length := by
    clear hl hy hk
    induction g with
    | nil => simp
    | cons x l ih =>
      have h1 := (encS_len x (hf x (by simp)).1 (hf x (by simp)).2).2.2
      have h2 := ih (fun y hy => hf y (by simp [hy]))
      rw [encAll_cons, List.length_append, List.length_cons]
      omega
  have e : openR ((encAll g).take k) = openS ((encAll g).length + 1) ((encAll g).take k) := by
    rw [openR, if_neg (by rw [List.length_take]; omega)]
    exact openS_more _ _ _ (hy.take k) (by omega) (by rw [List.length_take]; omega)
  rw [e]
  exact open_cut g _ k hf (by omega) hk
theorem odd_opens {g : List Cel} (hf : FineL g) {z : Int} (hz : ¬ (1 ≤ z ∧ z ≤ 8)) (h0 : 0 ≤ z) (h1 : z < 256) : openR (encAll g ++ [z]) = none := by
  rw [openR]
  split
  · rfl
  · exact open_odd hz h0 h1 g _ hf
/-- The first group is what the list begins with. -/
theorem first_group {l : List Cel} {G : List (List Cel)} (h : G.flatten = l) (h0 : 0 < G.length) : ∃ m, m ≤ l.length ∧ nthG G 0 = l.take m := by
  cases G with
  | nil => simp at h0
  | cons g G =>
    refine ⟨g.length, by rw [← h]; simp, ?_⟩
    rw [← h]
    simp [nthG]
end Go.Proofs.Ytghcnipehgjegaa.Plain
namespace Go.Proofs.Ytghcnipehgjegaa.Cell
open Go.RowKit Go.Proofs.YtghcnipehgjegaaW.PrintWords Go.Proofs.YtghcnipehgjegaaW.PrintLast Go.Proofs.YtghcnipehgjegaaW.PrintMore Go.Proofs.Ytghcnipehgjegaa.Kit Go.Proofs.Ytghcnipehgjegaa.Plain Go.Proofs.Ytghcnipehgjegaa.Wire
set_option linter.unusedVariables false
set_option linter.unusedSimpArgs false
theorem cutCelO (A : Option Addr) (n c j : Nat) (hj : j ≤ n) (hc : n ≤ c) (k : IntKind) :
    ∀ W : World, (Instr.slice 22 (.slice A n c) none (some (.int k (j : Int))) none).run Try.prog W = .ok (.slice A j c) W := by
  obtain ⟨i0, hi, hzz⟩ := Option.map_eq_some_iff.1 infoCelO
  intro W
  have := cut_to 22 30 k Try.underlying22 hi A n c (j : Int) (by omega) (by omega) hc W
  simpa using this
theorem C_takeCelO {w : World} {A : Option Addr} {n : Nat} {l : List Cel} (h : Kd.C CelD w A n l) (m : Nat) (hm : m ≤ n) : Kd.C CelD w A m (l.take m) := by
  obtain rfl := Kd.C_len h
  have h1 := Kd.C_take (m := m) h hm
  rwa [show (l.take m).length = m by rw [List.length_take]; omega] at h1
theorem OwC_slice {w : World} {base : Nat} {v : Value} {l : List Cel} (h : OwC w base v l) : ∃ A n c, v = .slice A n c ∧ Kd.C CelD w A n l := by
  obtain ⟨A, c, rfl⟩ := Kd.R_slice h
  exact ⟨A, _, c, rfl, (Kd.R_reads' h).2.2⟩
theorem add_zero0 (a : Addr) : a.add 0 = a := by unfold Addr.add; split <;> simp_all
set_option maxHeartbeats 6400000 in
set_option maxRecDepth 100000 in
theorem cuts_law (B0 : Option Addr) (n0 bc : Nat) (l : List Cel) (at_ more : Int) (w : World) (hr : Kd.C CelD w B0 n0 l) (hcap : n0 ≤ bc) (ht : ∀ x ∈ l, CelTy x) (ha0 : 0 ≤ at_) (ha1 : at_ < 256) (hm0 : 0 ≤ more) (hm1 : more < 256) :
    Calls Try.prog 6 #[.slice B0 n0 bc, .int .u8 at_, .int .u8 more] w fun e w' => e = .returned (.bool true) ∧ Below w.heap.size w w' := by
  obtain rfl := Kd.C_len hr
  have hmx := Kd.C_max hr
  have HR := Aside0.mk hr
  have HT := Aside0.mk ht
  have HCAP := Aside0.mk hcap
  clear hr ht hcap
  have HB := Aside0.mk (Below.refl w.heap.size w)
  by_cases hlen : 6 < l.length
  · have g0 : decide (6 < (l.length : Int)) = true := decide_eq_true (by omega)
    go_enter Try.func6, Try.ntmps6
    go_wp2_with (go_at_call 9; go_must (refine (awake13_any _).mono ?_; rintro e w1 ⟨rfl, hb⟩; clear HB; have HB := Aside0.mk hb; clear hb))
    go_ret
    exact ⟨rfl, HB.out⟩
  have g0 : decide (6 < (l.length : Int)) = false := decide_eq_false (by omega)
  have HL6 := Aside0.mk (show l.length ≤ 6 by omega)
  clear hlen
  go_enter Try.func6, Try.ntmps6
  go_wp2_with (go_at_call 9; go_must (refine (awake13_any _).mono ?_; rintro e w1 ⟨rfl, hb⟩; clear HB; have HB := Aside0.mk hb; clear hb))
  go_loopg [7] l.length (fun gk v w' => ∃ i : Nat, v = .int .i64 (i : Int) ∧ i + gk = l.length ∧ Aside0 (∀ x ∈ l.take i, rightB x = true) ∧ Aside0 (Below w.heap.size w w'))
  case atStart => exact ⟨0, rfl, by omega, ⟨fun x hx => by simp at hx⟩, HB⟩
  case round =>
    clear HB
    obtain ⟨i, rfl, hi, HG, HB⟩ := hrel
    by_cases hlt : i < l.length
    · obtain ⟨ad, A, c, rfl, hcel, hcapx, hra⟩ := cel_row HR.out i hlt
      obtain ⟨x, hx⟩ : ∃ x, x = gdC l i := ⟨_, rfl⟩
      have htx : CelTy x := hx ▸ HT.out _ (gdC_mem hlt)
      rw [← hx] at hcel hcapx hra
      obtain ⟨c0, c1, c2, c3, c4, c5, c6, c7, c8, c9, c10⟩ := CelIn.below hcel HB.out
      have HRA := Aside0.mk hra
      have HTX := Aside0.mk htx
      have HTK := Aside0.mk (show l.take (i + 1) = l.take i ++ [x] by rw [List.take_succ_eq_append_getElem hlt, hx]; simp [gdC, hlt])
      have hmx' := C_max hra
      have hi0 : 0 ≤ (i : Int) := by omega
      have hi1 : (i : Int) < (l.length : Int) := by omega
      clear hcel hcapx hra htx hx
      cases hrx : rightB x with
      | false =>
        go_wp2_with (go_at_call 10; go_must (refine (refright_any x A c _ (Kd.C_below HRA.out HB.out) HTX.out.wf.2.2).mono ?_; rintro e y7 ⟨rfl, hb⟩; rw [hrx]; replace HB := Aside0.mk (HB.out.trans (hb.mono HB.out.size)); clear hb))
        go_ret
        exact ⟨rfl, HB.out⟩
      | true =>
        have HRX := Aside0.mk hrx
        go_wp2_with (go_at_call 10; go_must (refine (refright_any x A c _ (Kd.C_below HRA.out HB.out) HTX.out.wf.2.2).mono ?_; rintro e y7 ⟨rfl, hb⟩; rw [hrx]; replace HB := Aside0.mk (HB.out.trans (hb.mono HB.out.size)); clear hb))
        go_roundg (gk - 1)
        case measure => omega
        case rel => exact ⟨i + 1, by go_num, by omega, ⟨fun y hy => by
          rw [HTK.out] at hy
          rcases List.mem_append.1 hy with hy | hy
          · exact HG.out y hy
          · rw [List.mem_singleton] at hy; subst hy; exact HRX.out⟩, HB⟩
    · have HRT := Aside0.mk (show ∀ x ∈ l, rightB x = true by have := HG.out; rwa [List.take_of_length_le (by omega)] at this)
      clear HG
      have HFL := Aside0.mk (show FineL l from fun x hx => ⟨(HT.out x hx).wf, HRT.out x hx⟩)
      have hl6 := HL6.out
      obtain ⟨G, hG⟩ : ∃ G, G = groups l := ⟨_, rfl⟩
      have hgrp := groups_all l (fun x hx => by have := (encS_len x (HT.out x hx).wf (HRT.out x hx)).2.1; omega)
      have hbod := groups_bodies l
      rw [← hG] at hgrp hbod
      have HGRP := Aside0.mk hgrp
      have HBOD := Aside0.mk hbod
      clear hG hgrp hbod
      obtain ⟨nG, hnG⟩ : ∃ n, n = G.length := ⟨_, rfl⟩
      have HNG := Aside0.mk hnG
      clear hnG
      go_upto_region 11 with (go_at_call 11; (with_reducible refine (fill_any B0 l.length bc l _ (Kd.C_below HR.out HB.out) HT.out (by omega) HRT.out).mono ?_); go_must (rintro e y1 ⟨⟨va, vp, rfl, ha, hp⟩, hb⟩; rw [HBOD.out] at ha; obtain ⟨Aa, ca, rfl⟩ := Kd.S_slice ha; obtain ⟨Ap, cp, rfl⟩ := Kd.R_slice hp; rw [List.length_map, ← HNG.out] at ha ⊢; have HA := Aside0.mk ha; replace HB := Aside0.mk (HB.out.trans (hb.mono HB.out.size)); clear ha hp hb))
      by_cases hn0 : nG = 0
      · have hl0 : l.length = 0 := by
          have := HGRP.out.flat
          have hg0 : G = [] := List.eq_nil_of_length_eq_zero (by have := HNG.out; omega)
          rw [hg0] at this
          rw [← this]; rfl
        have q1 : ((l.length : Int) == 0) = true := by rw [hl0]; rfl
        have q2 : (l.length == 0) = true := by rw [hl0]; rfl
        have q3 : ((nG : Int) == 0) = true := by rw [hn0]; rfl
        have q4 : (nG == 0) = true := by rw [hn0]; rfl
        clear hl0 hn0 hi hlt hl6
        go_wp2
        go_ret
        exact ⟨rfl, HB.out⟩
      have q3 : ((nG : Int) == 0) = false := beq_eq_false_iff_ne.2 (by omega)
      have q4 : (nG == 0) = false := beq_eq_false_iff_ne.2 hn0
      obtain ⟨m, hml, hg0⟩ := first_group HGRP.out.flat (by have := HNG.out; omega)
      have hfg : FineL (nthG G 0) := fun x hx => HFL.out x (by rw [hg0] at hx; exact List.mem_of_mem_take hx)
      have hgl : (encAll (nthG G 0)).length ≤ 103 := HGRP.out.fits _ (by
        have : nthG G 0 = G[0]'(by have := HNG.out; omega) := by simp [nthG, show 0 < G.length by have := HNG.out; omega]
        rw [this]; exact List.getElem_mem _)
      obtain ⟨adB, A0, k0, rfl, hc0, hk0, hr0⟩ := C_row (Kd.S_reads' HA.out).2.2 0 (by rw [List.length_map]; have := HNG.out; omega)
      rw [nthG_map, add_zero0] at hc0
      rw [nthG_map] at hk0
      have hr0' : Kd.C (Kd.int .u8) y1 A0 (encAll (nthG G 0)).length (encAll (nthG G 0)) := by have := hr0; rw [nthG_map] at this; exact this
      obtain ⟨g, hg⟩ : ∃ g, g = nthG G 0 := ⟨_, rfl⟩
      rw [← hg] at hg0 hfg hgl hc0 hk0 hr0'
      obtain ⟨lb, hlb⟩ : ∃ n, n = (encAll g).length := ⟨_, rfl⟩
      rw [← hlb] at hgl hc0 hk0 hr0'
      have HFG := Aside0.mk hfg
      have HR0 := Aside0.mk hr0'
      have HK0 := Aside0.mk hk0
      have HLB := Aside0.mk hlb
      have HG0 := Aside0.mk hg0
      have HBY := Aside0.mk (show Byt (encAll g) from encAll_byt (fun x hx => (hfg x hx).1.2.2))
      obtain ⟨k, hk⟩ : ∃ k : Nat, k = at_.toNat % (lb + 1) := ⟨_, rfl⟩
      have hkl : k ≤ lb := by have := Nat.mod_lt at_.toNat (show 0 < lb + 1 by omega); omega
      have er0 : IntKind.i64.wrap ((lb : Int) + 1) = (lb : Int) + 1 := IntWalk.i64_in _ (by omega)
      have er1 : at_.tmod ((lb : Int) + 1) = (k : Int) := by
        rw [Int.tmod_eq_emod_of_nonneg ha0, hk, Int.natCast_emod]
        congr 1
        · omega
      have er2 : IntKind.i64.wrap at_ = at_ := IntWalk.i64_in _ (by omega)
      have er3 : IntKind.i64.wrap (k : Int) = (k : Int) := IntWalk.i64_in _ (by omega)
      have hz : (lb : Int) + 1 ≠ 0 := by omega
      have HKL := Aside0.mk hkl
      have HML := Aside0.mk hml
      have hp0 : (0 : Int) < (nG : Int) := by omega
      have HOPEN := Aside0.mk (cut_opens hfg (by rw [← hlb]; exact hgl) HBY.out (k := k) (by rw [← hlb]; exact hkl))
      clear hfg hr0 hr0' hk0 hlb hg0 hg hml hk hn0
      obtain ⟨w0, hw0⟩ : ∃ b, b = decide (lenA l 0 = k) := ⟨_, rfl⟩
      have HW0 := Aside0.mk hw0
      have hl00 : lenA l 0 = 0 := rfl
      have q5 : ((k : Int) == 0) = w0 := by
        rw [hw0, hl00]
        by_cases h : k = 0
        · subst h; rfl
        · rw [beq_eq_false_iff_ne.2 (show (k : Int) ≠ 0 by omega), decide_eq_false (fun h' => h h'.symm)]
      have q6 : (k == 0) = w0 := by
        rw [hw0, hl00]
        by_cases h : k = 0
        · subst h; rfl
        · rw [beq_eq_false_iff_ne.2 h, decide_eq_false (fun h' => h h'.symm)]
      clear hw0 hl00
      have HB0 := HB
      replace HR := Aside0.mk (Kd.C_below HR.out HB.out)
      clear HB HA
      have HB := Aside0.mk (Below.refl y1.heap.size y1)
      go_wp2
      clear er0 er1 er2 er3 hz q3 q4 hc0 hp0 q5 q6
      go_loopg [13, 14, 15, 16] l.length (fun gk v13 v14 v15 v16 w' => ∃ (i s : Nat) (wh : Bool), v13 = .int .i64 (s : Int) ∧ v14 = .int .i64 (i : Int) ∧ v15 = .bool wh ∧ v16 = .int .i64 (i : Int) ∧ i + gk = l.length ∧ s ≤ 46 * i ∧ Aside0 (s = lenA l i) ∧ Aside0 (wh = decide (lenA l i = k)) ∧ Aside0 (∀ j, j < i → lenA l j < k) ∧ Aside0 (Below y1.heap.size y1 w'))
      case atStart => exact ⟨0, 0, w0, rfl, rfl, rfl, rfl, by omega, by omega, ⟨rfl⟩, HW0, ⟨fun j h => by omega⟩, HB⟩
      case round =>
        clear HB HW0
        obtain ⟨i, s, wh, rfl, rfl, rfl, rfl, hi2, hs46, HS, HWH, HJ, HB⟩ := hrel
        by_cases hlt2 : i < l.length
        · by_cases hsk : s < k
          · obtain rfl : wh = false := by rw [HWH.out]; exact decide_eq_false (fun h => by have := HS.out; omega)
            obtain ⟨ad, A, c, rfl, hcel, hcapx, hra⟩ := cel_row HR.out i hlt2
            obtain ⟨x, hx⟩ : ∃ x, x = gdC l i := ⟨_, rfl⟩
            have htx : CelTy x := hx ▸ HT.out _ (gdC_mem hlt2)
            have hrx : rightB x = true := hx ▸ HRT.out _ (gdC_mem hlt2)
            rw [← hx] at hcel hcapx hra
            obtain ⟨c0, c1, c2, c3, c4, c5, c6, c7, c8, c9, c10⟩ := CelIn.below hcel HB.out
            have HRA := Aside0.mk hra
            have HTX := Aside0.mk htx
            have hmx' := C_max hra
            have hj0 : 0 ≤ (i : Int) := by omega
            have hj1 : (i : Int) < (l.length : Int) := by omega
            obtain ⟨z, hz⟩ : ∃ z, z = (encS x).length := ⟨_, rfl⟩
            have hz46 : z ≤ 46 := by rw [hz]; exact (encS_len x htx.wf hrx).2.1
            have HSTEP := Aside0.mk (show lenA l (i + 1) = s + z by rw [lenA_step hlt2, ← hx, ← hz, HS.out])
            have HZ := Aside0.mk (show ((encR x).1.length : Int) = (z : Int) by rw [encR, if_pos hrx, hz])
            have e8 : IntKind.i64.wrap ((s : Int) + (z : Int)) = (s : Int) + (z : Int) := IntWalk.i64_in _ (by have := HL6.out; omega)
            have HSK := Aside0.mk hsk
            clear hcel hcapx hra htx hrx hx hz
            by_cases hez : s + z = k
            · have q7 : ((s : Int) + (z : Int) == (k : Int)) = true := beq_iff_eq.2 (by omega)
              have HW1 := Aside0.mk (show true = decide (lenA l (i + 1) = k) by rw [HSTEP.out]; exact (decide_eq_true hez).symm)
              clear hez
              go_wp2_with (go_at_call 19; go_must (refine (size_any x A c _ (Kd.C_below HRA.out HB.out) HTX.out.wf).mono ?_; rintro e y7 ⟨rfl, hb⟩; rw [HZ.out]; replace HB := Aside0.mk (HB.out.trans (hb.mono HB.out.size)); clear hb))
              go_roundg (gk - 1)
              case measure => omega
              case rel => exact ⟨i + 1, s + z, true, by go_num, by go_num, rfl, by go_num, by omega, by omega, ⟨HSTEP.out.symm⟩, HW1, ⟨fun j hj => by
                rcases Nat.lt_or_ge j i with h | h
                · exact HJ.out j h
                · obtain rfl : j = i := by omega
                  rw [← HS.out]; exact HSK.out⟩, HB⟩
            · have q7 : ((s : Int) + (z : Int) == (k : Int)) = false := beq_eq_false_iff_ne.2 (by omega)
              have HW1 := Aside0.mk (show false = decide (lenA l (i + 1) = k) by rw [HSTEP.out]; exact (decide_eq_false hez).symm)
              clear hez
              go_wp2_with (go_at_call 19; go_must (refine (size_any x A c _ (Kd.C_below HRA.out HB.out) HTX.out.wf).mono ?_; rintro e y7 ⟨rfl, hb⟩; rw [HZ.out]; replace HB := Aside0.mk (HB.out.trans (hb.mono HB.out.size)); clear hb))
              go_roundg (gk - 1)
              case measure => omega
              case rel => exact ⟨i + 1, s + z, false, by go_num, by go_num, rfl, by go_num, by omega, by omega, ⟨HSTEP.out.symm⟩, HW1, ⟨fun j hj => by
                rcases Nat.lt_or_ge j i with h | h
                · exact HJ.out j h
                · obtain rfl : j = i := by omega
                  rw [← HS.out]; exact HSK.out⟩, HB⟩
          · have HGE := Aside0.mk (show k ≤ lenA l i by rw [← HS.out]; omega)
            have hil : i ≤ l.length := by omega
            have ct := cutTo A0 lb k0 k HKL.out HK0.out .i64
            have ct2 := cutCelO B0 l.length bc i hil HCAP.out .i64
            have HIL := Aside0.mk hil
            clear hil
            have HLG := Aside0.mk (show ∀ j, j ≤ m → lenA g j = lenA l j from fun j hj => by rw [lenA, lenA, HG0.out, List.take_take, Nat.min_eq_left hj])
            have HGL := Aside0.mk (show g.length = m by rw [HG0.out, List.length_take]; have := HML.out; omega)
            cases wh with
            | true =>
              have HEQ := Aside0.mk (of_decide_eq_true HWH.out.symm)
              have HIM := Aside0.mk (show i ≤ m by
                rcases Nat.lt_or_ge m i with h | h
                · have h1 := lenA_mono HFL.out h HIL.out
                  have h2 : lb = lenA l m := by rw [HLB.out, HG0.out]; rfl
                  have h3 := HKL.out
                  have h4 := HEQ.out
                  omega
                · exact h)
              have HOO := Aside0.mk (show openR ((encAll g).take k) = some (l.take i) by
                have h := HOPEN.out.1 i (by rw [HGL.out]; exact HIM.out) (by rw [HLG.out i HIM.out]; exact HEQ.out)
                rw [h, HG0.out, List.take_take, Nat.min_eq_left HIM.out])
              by_cases hm2 : 1 ≤ more
              · by_cases hm3 : more ≤ 8
                · go_wp2_with (first
                    | (go_at_call 16; (with_reducible refine (open_any A0 k k0 ((encAll g).take k) _ (RdN_take (Kd.C_below HR0.out HB.out) k HKL.out) (Nat.le_trans HKL.out HK0.out) (HBY.out.take k)).mono ?_); go_must (rintro e y3 ⟨⟨h1, _⟩, hb⟩; obtain ⟨v3, rfl, hc⟩ := h1 _ HOO.out; obtain ⟨A3, n3, c3, rfl, hc3⟩ := OwC_slice hc; have HC3 := Aside0.mk hc3; replace HB := Aside0.mk (HB.out.trans (hb.mono HB.out.size)); clear hb hc h1 hc3))
                    | (go_at_call 18; go_must (refine (same13_yes A3 B0 n3 i c3 bc (l.take i) _ (Kd.C_below HC3.out (Below.refl _ _)) (C_takeCelO (Kd.C_below HR.out HB.out) i HIL.out) (fun x hx => (HT.out x (List.mem_of_mem_take hx)).wf.2.2)).mono ?_; rintro e y4 ⟨rfl, hb⟩; replace HB := Aside0.mk (HB.out.trans (hb.mono HB.out.size)); clear hb)))
                  go_ret
                  exact ⟨rfl, HB0.out.trans (HB.out.mono HB0.out.size)⟩
                · have HODD := Aside0.mk (show openR ([] ++ encAll g ++ [more]) = none from odd_opens HFG.out (by omega) hm0 hm1)
                  have HBM := Aside0.mk (show Byt ([] ++ encAll g ++ [more]) from Byt.append HBY.out (fun y hy => by rw [List.mem_singleton] at hy; subst hy; exact ⟨hm0, hm1⟩))
                  have hlb103 : lb ≤ 103 := hgl
                  go_wp2_with (first
                  | (go_at_call 16; (with_reducible refine (open_any A0 k k0 ((encAll g).take k) _ (RdN_take (Kd.C_below HR0.out HB.out) k HKL.out) (Nat.le_trans HKL.out HK0.out) (HBY.out.take k)).mono ?_); go_must (rintro e y3 ⟨⟨h1, _⟩, hb⟩; obtain ⟨v3, rfl, hc⟩ := h1 _ HOO.out; obtain ⟨A3, n3, c3, rfl, hc3⟩ := OwC_slice hc; have HC3 := Aside0.mk hc3; replace HB := Aside0.mk (HB.out.trans (hb.mono HB.out.size)); clear hb hc h1 hc3))
                  | (go_at_call 18; go_must (refine (same13_yes A3 B0 n3 i c3 bc (l.take i) _ (Kd.C_below HC3.out (Below.refl _ _)) (C_takeCelO (Kd.C_below HR.out HB.out) i HIL.out) (fun x hx => (HT.out x (List.mem_of_mem_take hx)).wf.2.2)).mono ?_; rintro e y4 ⟨rfl, hb⟩; replace HB := Aside0.mk (HB.out.trans (hb.mono HB.out.size)); clear hb))
                  | ((with_reducible refine gate_dst (N := 123) rfl ?_); (try (refine gate_guard (by rfl) ?_; dsimp only)); refine litB y1.heap.size rfl (N := 123) rfl [] ?hr HB.out HB.out.size (by simp) ?_; (case hr => first | (go_simp; done) | (go_simp; rfl)); intro v20 w20 ho hb0 hn hb; clear HB; have HB := Aside0.mk hb0; have HO20 := Aside0.mk ho; obtain ⟨A20, c20, rfl, hcap20, hr20⟩ := Ow_slice ho; have HR20 := Aside0.mk hr20; clear hr20 ho hb hb0 hn)
                  | ((with_reducible refine gate_dst (N := 125) rfl ?_); (try (refine gate_guard (by rfl) ?_; dsimp only)); refine appB y1.heap.size rfl (.tmp 123) (.tmp 124) rfl rfl _ [] (encAll g) A0 lb k0 rfl rfl HO20.out (Kd.C_below HR0.out HB.out) HB.out HB.out.size (by have := HLB.out; simp; omega) ?_; intro v21 w21 ho hb hg hat; clear HB; have HB := Aside0.mk hb; have HO21 := Aside0.mk ho; clear ho hb hg hat)
                  | ((with_reducible refine gate_dst (N := 127) rfl ?_); (try (refine gate_guard (by rfl) ?_; dsimp only)); refine litB y1.heap.size rfl (N := 127) rfl [more] ?hr HB.out HB.out.size (by simp) ?_; (case hr => first | (go_simp; done) | (go_simp; rfl)); intro v22 w22 ho hb0 hn hb; replace HO21 := Aside0.mk (Kd.R_below HO21.out hb); clear HB; have HB := Aside0.mk hb0; have HO22 := Aside0.mk ho; obtain ⟨A22, c22, rfl, hcap22, hr22⟩ := Ow_slice ho; have HR22 := Aside0.mk hr22; clear hr22 ho hb hb0 hn)
                  | ((with_reducible refine gate_dst (N := 128) rfl ?_); (try (refine gate_guard (by rfl) ?_; dsimp only)); refine appB y1.heap.size rfl (.tmp 125) (.tmp 127) rfl rfl _ ([] ++ encAll g) [more] A22 1 c22 rfl rfl HO21.out HR22.out HB.out HB.out.size (by have := HLB.out; simp; omega) ?_; intro v23 w23 ho hb hg hat;obtain ⟨A23, n23, c23, rfl, hc23, hr23⟩ := Ow_sliceP ho; have HR23 := Aside0.mk hr23; have HC23 := Aside0.mk hc23; clear hr23 hc23; clear HB; have HB := Aside0.mk hb; have HO23 := Aside0.mk ho; clear ho hb hg hat)
                  | (go_at_call 16; (with_reducible refine (open_any A23 n23 c23 ([] ++ encAll g ++ [more]) _ HR23.out HC23.out HBM.out).mono ?_); go_must (rintro e y5 ⟨⟨_, h2⟩, hb⟩; obtain rfl := h2 HODD.out; replace HB := Aside0.mk (HB.out.trans (hb.mono HB.out.size)); clear hb h2)))
                  go_ret
                  exact ⟨rfl, HB0.out.trans (HB.out.mono HB0.out.size)⟩
              · have HODD := Aside0.mk (show openR ([] ++ encAll g ++ [more]) = none from odd_opens HFG.out (by omega) hm0 hm1)
                have HBM := Aside0.mk (show Byt ([] ++ encAll g ++ [more]) from Byt.append HBY.out (fun y hy => by rw [List.mem_singleton] at hy; subst hy; exact ⟨hm0, hm1⟩))
                have hlb103 : lb ≤ 103 := hgl
                go_wp2_with (first
                  | (go_at_call 16; (with_reducible refine (open_any A0 k k0 ((encAll g).take k) _ (RdN_take (Kd.C_below HR0.out HB.out) k HKL.out) (Nat.le_trans HKL.out HK0.out) (HBY.out.take k)).mono ?_); go_must (rintro e y3 ⟨⟨h1, _⟩, hb⟩; obtain ⟨v3, rfl, hc⟩ := h1 _ HOO.out; obtain ⟨A3, n3, c3, rfl, hc3⟩ := OwC_slice hc; have HC3 := Aside0.mk hc3; replace HB := Aside0.mk (HB.out.trans (hb.mono HB.out.size)); clear hb hc h1 hc3))
                  | (go_at_call 18; go_must (refine (same13_yes A3 B0 n3 i c3 bc (l.take i) _ (Kd.C_below HC3.out (Below.refl _ _)) (C_takeCelO (Kd.C_below HR.out HB.out) i HIL.out) (fun x hx => (HT.out x (List.mem_of_mem_take hx)).wf.2.2)).mono ?_; rintro e y4 ⟨rfl, hb⟩; replace HB := Aside0.mk (HB.out.trans (hb.mono HB.out.size)); clear hb))
                  | ((with_reducible refine gate_dst (N := 123) rfl ?_); (try (refine gate_guard (by rfl) ?_; dsimp only)); refine litB y1.heap.size rfl (N := 123) rfl [] ?hr HB.out HB.out.size (by simp) ?_; (case hr => first | (go_simp; done) | (go_simp; rfl)); intro v20 w20 ho hb0 hn hb; clear HB; have HB := Aside0.mk hb0; have HO20 := Aside0.mk ho; obtain ⟨A20, c20, rfl, hcap20, hr20⟩ := Ow_slice ho; have HR20 := Aside0.mk hr20; clear hr20 ho hb hb0 hn)
                  | ((with_reducible refine gate_dst (N := 125) rfl ?_); (try (refine gate_guard (by rfl) ?_; dsimp only)); refine appB y1.heap.size rfl (.tmp 123) (.tmp 124) rfl rfl _ [] (encAll g) A0 lb k0 rfl rfl HO20.out (Kd.C_below HR0.out HB.out) HB.out HB.out.size (by have := HLB.out; simp; omega) ?_; intro v21 w21 ho hb hg hat; clear HB; have HB := Aside0.mk hb; have HO21 := Aside0.mk ho; clear ho hb hg hat)
                  | ((with_reducible refine gate_dst (N := 127) rfl ?_); (try (refine gate_guard (by rfl) ?_; dsimp only)); refine litB y1.heap.size rfl (N := 127) rfl [more] ?hr HB.out HB.out.size (by simp) ?_; (case hr => first | (go_simp; done) | (go_simp; rfl)); intro v22 w22 ho hb0 hn hb; replace HO21 := Aside0.mk (Kd.R_below HO21.out hb); clear HB; have HB := Aside0.mk hb0; have HO22 := Aside0.mk ho; obtain ⟨A22, c22, rfl, hcap22, hr22⟩ := Ow_slice ho; have HR22 := Aside0.mk hr22; clear hr22 ho hb hb0 hn)
                  | ((with_reducible refine gate_dst (N := 128) rfl ?_); (try (refine gate_guard (by rfl) ?_; dsimp only)); refine appB y1.heap.size rfl (.tmp 125) (.tmp 127) rfl rfl _ ([] ++ encAll g) [more] A22 1 c22 rfl rfl HO21.out HR22.out HB.out HB.out.size (by have := HLB.out; simp; omega) ?_; intro v23 w23 ho hb hg hat;obtain ⟨A23, n23, c23, rfl, hc23, hr23⟩ := Ow_sliceP ho; have HR23 := Aside0.mk hr23; have HC23 := Aside0.mk hc23; clear hr23 hc23; clear HB; have HB := Aside0.mk hb; have HO23 := Aside0.mk ho; clear ho hb hg hat)
                  | (go_at_call 16; (with_reducible refine (open_any A23 n23 c23 ([] ++ encAll g ++ [more]) _ HR23.out HC23.out HBM.out).mono ?_); go_must (rintro e y5 ⟨⟨_, h2⟩, hb⟩; obtain rfl := h2 HODD.out; replace HB := Aside0.mk (HB.out.trans (hb.mono HB.out.size)); clear hb h2)))
                go_ret
                exact ⟨rfl, HB0.out.trans (HB.out.mono HB0.out.size)⟩
            | false =>
              have HNE := Aside0.mk (of_decide_eq_false HWH.out.symm)
              have HOO := Aside0.mk (show openR ((encAll g).take k) = none by
                refine HOPEN.out.2 (fun j hj he => ?_)
                rw [HGL.out] at hj
                rw [HLG.out j hj] at he
                have h1 := HML.out
                rcases Nat.lt_trichotomy j i with h | h | h
                · have := HJ.out j h; omega
                · subst h; exact HNE.out he
                · have := lenA_mono HFL.out h (by omega); have := HGE.out; omega)
              by_cases hm2 : 1 ≤ more
              · by_cases hm3 : more ≤ 8
                · go_wp2_with (first
                    | (go_at_call 16; (with_reducible refine (open_any A0 k k0 ((encAll g).take k) _ (RdN_take (Kd.C_below HR0.out HB.out) k HKL.out) (Nat.le_trans HKL.out HK0.out) (HBY.out.take k)).mono ?_); go_must (rintro e y3 ⟨⟨_, h2⟩, hb⟩; obtain rfl := h2 HOO.out; replace HB := Aside0.mk (HB.out.trans (hb.mono HB.out.size)); clear hb h2)))
                  go_ret
                  exact ⟨rfl, HB0.out.trans (HB.out.mono HB0.out.size)⟩
                · have HODD := Aside0.mk (show openR ([] ++ encAll g ++ [more]) = none from odd_opens HFG.out (by omega) hm0 hm1)
                  have HBM := Aside0.mk (show Byt ([] ++ encAll g ++ [more]) from Byt.append HBY.out (fun y hy => by rw [List.mem_singleton] at hy; subst hy; exact ⟨hm0, hm1⟩))
                  have hlb103 : lb ≤ 103 := hgl
                  go_wp2_with (first
                  | (go_at_call 16; (with_reducible refine (open_any A0 k k0 ((encAll g).take k) _ (RdN_take (Kd.C_below HR0.out HB.out) k HKL.out) (Nat.le_trans HKL.out HK0.out) (HBY.out.take k)).mono ?_); go_must (rintro e y3 ⟨⟨_, h2⟩, hb⟩; obtain rfl := h2 HOO.out; replace HB := Aside0.mk (HB.out.trans (hb.mono HB.out.size)); clear hb h2))
                  | ((with_reducible refine gate_dst (N := 123) rfl ?_); (try (refine gate_guard (by rfl) ?_; dsimp only)); refine litB y1.heap.size rfl (N := 123) rfl [] ?hr HB.out HB.out.size (by simp) ?_; (case hr => first | (go_simp; done) | (go_simp; rfl)); intro v20 w20 ho hb0 hn hb; clear HB; have HB := Aside0.mk hb0; have HO20 := Aside0.mk ho; obtain ⟨A20, c20, rfl, hcap20, hr20⟩ := Ow_slice ho; have HR20 := Aside0.mk hr20; clear hr20 ho hb hb0 hn)
                  | ((with_reducible refine gate_dst (N := 125) rfl ?_); (try (refine gate_guard (by rfl) ?_; dsimp only)); refine appB y1.heap.size rfl (.tmp 123) (.tmp 124) rfl rfl _ [] (encAll g) A0 lb k0 rfl rfl HO20.out (Kd.C_below HR0.out HB.out) HB.out HB.out.size (by have := HLB.out; simp; omega) ?_; intro v21 w21 ho hb hg hat; clear HB; have HB := Aside0.mk hb; have HO21 := Aside0.mk ho; clear ho hb hg hat)
                  | ((with_reducible refine gate_dst (N := 127) rfl ?_); (try (refine gate_guard (by rfl) ?_; dsimp only)); refine litB y1.heap.size rfl (N := 127) rfl [more] ?hr HB.out HB.out.size (by simp) ?_; (case hr => first | (go_simp; done) | (go_simp; rfl)); intro v22 w22 ho hb0 hn hb; replace HO21 := Aside0.mk (Kd.R_below HO21.out hb); clear HB; have HB := Aside0.mk hb0; have HO22 := Aside0.mk ho; obtain ⟨A22, c22, rfl, hcap22, hr22⟩ := Ow_slice ho; have HR22 := Aside0.mk hr22; clear hr22 ho hb hb0 hn)
                  | ((with_reducible refine gate_dst (N := 128) rfl ?_); (try (refine gate_guard (by rfl) ?_; dsimp only)); refine appB y1.heap.size rfl (.tmp 125) (.tmp 127) rfl rfl _ ([] ++ encAll g) [more] A22 1 c22 rfl rfl HO21.out HR22.out HB.out HB.out.size (by have := HLB.out; simp; omega) ?_; intro v23 w23 ho hb hg hat;obtain ⟨A23, n23, c23, rfl, hc23, hr23⟩ := Ow_sliceP ho; have HR23 := Aside0.mk hr23; have HC23 := Aside0.mk hc23; clear hr23 hc23; clear HB; have HB := Aside0.mk hb; have HO23 := Aside0.mk ho; clear ho hb hg hat)
                  | (go_at_call 16; (with_reducible refine (open_any A23 n23 c23 ([] ++ encAll g ++ [more]) _ HR23.out HC23.out HBM.out).mono ?_); go_must (rintro e y5 ⟨⟨_, h2⟩, hb⟩; obtain rfl := h2 HODD.out; replace HB := Aside0.mk (HB.out.trans (hb.mono HB.out.size)); clear hb h2)))
                  go_ret
                  exact ⟨rfl, HB0.out.trans (HB.out.mono HB0.out.size)⟩
              · have HODD := Aside0.mk (show openR ([] ++ encAll g ++ [more]) = none from odd_opens HFG.out (by omega) hm0 hm1)
                have HBM := Aside0.mk (show Byt ([] ++ encAll g ++ [more]) from Byt.append HBY.out (fun y hy => by rw [List.mem_singleton] at hy; subst hy; exact ⟨hm0, hm1⟩))
                have hlb103 : lb ≤ 103 := hgl
                go_wp2_with (first
                  | (go_at_call 16; (with_reducible refine (open_any A0 k k0 ((encAll g).take k) _ (RdN_take (Kd.C_below HR0.out HB.out) k HKL.out) (Nat.le_trans HKL.out HK0.out) (HBY.out.take k)).mono ?_); go_must (rintro e y3 ⟨⟨_, h2⟩, hb⟩; obtain rfl := h2 HOO.out; replace HB := Aside0.mk (HB.out.trans (hb.mono HB.out.size)); clear hb h2))
                  | ((with_reducible refine gate_dst (N := 123) rfl ?_); (try (refine gate_guard (by rfl) ?_; dsimp only)); refine litB y1.heap.size rfl (N := 123) rfl [] ?hr HB.out HB.out.size (by simp) ?_; (case hr => first | (go_simp; done) | (go_simp; rfl)); intro v20 w20 ho hb0 hn hb; clear HB; have HB := Aside0.mk hb0; have HO20 := Aside0.mk ho; obtain ⟨A20, c20, rfl, hcap20, hr20⟩ := Ow_slice ho; have HR20 := Aside0.mk hr20; clear hr20 ho hb hb0 hn)
                  | ((with_reducible refine gate_dst (N := 125) rfl ?_); (try (refine gate_guard (by rfl) ?_; dsimp only)); refine appB y1.heap.size rfl (.tmp 123) (.tmp 124) rfl rfl _ [] (encAll g) A0 lb k0 rfl rfl HO20.out (Kd.C_below HR0.out HB.out) HB.out HB.out.size (by have := HLB.out; simp; omega) ?_; intro v21 w21 ho hb hg hat; clear HB; have HB := Aside0.mk hb; have HO21 := Aside0.mk ho; clear ho hb hg hat)
                  | ((with_reducible refine gate_dst (N := 127) rfl ?_); (try (refine gate_guard (by rfl) ?_; dsimp only)); refine litB y1.heap.size rfl (N := 127) rfl [more] ?hr HB.out HB.out.size (by simp) ?_; (case hr => first | (go_simp; done) | (go_simp; rfl)); intro v22 w22 ho hb0 hn hb; replace HO21 := Aside0.mk (Kd.R_below HO21.out hb); clear HB; have HB := Aside0.mk hb0; have HO22 := Aside0.mk ho; obtain ⟨A22, c22, rfl, hcap22, hr22⟩ := Ow_slice ho; have HR22 := Aside0.mk hr22; clear hr22 ho hb hb0 hn)
                  | ((with_reducible refine gate_dst (N := 128) rfl ?_); (try (refine gate_guard (by rfl) ?_; dsimp only)); refine appB y1.heap.size rfl (.tmp 125) (.tmp 127) rfl rfl _ ([] ++ encAll g) [more] A22 1 c22 rfl rfl HO21.out HR22.out HB.out HB.out.size (by have := HLB.out; simp; omega) ?_; intro v23 w23 ho hb hg hat;obtain ⟨A23, n23, c23, rfl, hc23, hr23⟩ := Ow_sliceP ho; have HR23 := Aside0.mk hr23; have HC23 := Aside0.mk hc23; clear hr23 hc23; clear HB; have HB := Aside0.mk hb; have HO23 := Aside0.mk ho; clear ho hb hg hat)
                  | (go_at_call 16; (with_reducible refine (open_any A23 n23 c23 ([] ++ encAll g ++ [more]) _ HR23.out HC23.out HBM.out).mono ?_); go_must (rintro e y5 ⟨⟨_, h2⟩, hb⟩; obtain rfl := h2 HODD.out; replace HB := Aside0.mk (HB.out.trans (hb.mono HB.out.size)); clear hb h2)))
                go_ret
                exact ⟨rfl, HB0.out.trans (HB.out.mono HB0.out.size)⟩
        · have HGE := Aside0.mk (show k ≤ lenA l i by
            obtain rfl : i = l.length := by omega
            have h1 := HKL.out
            have h2 : lb = lenA l m := by rw [HLB.out, HG0.out]; rfl
            rcases Nat.lt_or_ge m l.length with h | h
            · have := lenA_mono HFL.out h (Nat.le_refl _); omega
            · obtain rfl : m = l.length := by have := HML.out; omega
              omega)
          have hil : i ≤ l.length := by omega
          have ct := cutTo A0 lb k0 k HKL.out HK0.out .i64
          have ct2 := cutCelO B0 l.length bc i hil HCAP.out .i64
          have HIL := Aside0.mk hil
          clear hil
          have HLG := Aside0.mk (show ∀ j, j ≤ m → lenA g j = lenA l j from fun j hj => by rw [lenA, lenA, HG0.out, List.take_take, Nat.min_eq_left hj])
          have HGL := Aside0.mk (show g.length = m by rw [HG0.out, List.length_take]; have := HML.out; omega)
          cases wh with
          | true =>
            have HEQ := Aside0.mk (of_decide_eq_true HWH.out.symm)
            have HIM := Aside0.mk (show i ≤ m by
              rcases Nat.lt_or_ge m i with h | h
              · have h1 := lenA_mono HFL.out h HIL.out
                have h2 : lb = lenA l m := by rw [HLB.out, HG0.out]; rfl
                have h3 := HKL.out
                have h4 := HEQ.out
                omega
              · exact h)
            have HOO := Aside0.mk (show openR ((encAll g).take k) = some (l.take i) by
              have h := HOPEN.out.1 i (by rw [HGL.out]; exact HIM.out) (by rw [HLG.out i HIM.out]; exact HEQ.out)
              rw [h, HG0.out, List.take_take, Nat.min_eq_left HIM.out])
            by_cases hm2 : 1 ≤ more
            · by_cases hm3 : more ≤ 8
              · go_wp2_with (first
                  | (go_at_call 16; (with_reducible refine (open_any A0 k k0 ((encAll g).take k) _ (RdN_take (Kd.C_below HR0.out HB.out) k HKL.out) (Nat.le_trans HKL.out HK0.out) (HBY.out.take k)).mono ?_); go_must (rintro e y3 ⟨⟨h1, _⟩, hb⟩; obtain ⟨v3, rfl, hc⟩ := h1 _ HOO.out; obtain ⟨A3, n3, c3, rfl, hc3⟩ := OwC_slice hc; have HC3 := Aside0.mk hc3; replace HB := Aside0.mk (HB.out.trans (hb.mono HB.out.size)); clear hb hc h1 hc3))
                  | (go_at_call 18; go_must (refine (same13_yes A3 B0 n3 i c3 bc (l.take i) _ (Kd.C_below HC3.out (Below.refl _ _)) (C_takeCelO (Kd.C_below HR.out HB.out) i HIL.out) (fun x hx => (HT.out x (List.mem_of_mem_take hx)).wf.2.2)).mono ?_; rintro e y4 ⟨rfl, hb⟩; replace HB := Aside0.mk (HB.out.trans (hb.mono HB.out.size)); clear hb)))
                go_ret
                exact ⟨rfl, HB0.out.trans (HB.out.mono HB0.out.size)⟩
              · have HODD := Aside0.mk (show openR ([] ++ encAll g ++ [more]) = none from odd_opens HFG.out (by omega) hm0 hm1)
                have HBM := Aside0.mk (show Byt ([] ++ encAll g ++ [more]) from Byt.append HBY.out (fun y hy => by rw [List.mem_singleton] at hy; subst hy; exact ⟨hm0, hm1⟩))
                have hlb103 : lb ≤ 103 := hgl
                go_wp2_with (first
                | (go_at_call 16; (with_reducible refine (open_any A0 k k0 ((encAll g).take k) _ (RdN_take (Kd.C_below HR0.out HB.out) k HKL.out) (Nat.le_trans HKL.out HK0.out) (HBY.out.take k)).mono ?_); go_must (rintro e y3 ⟨⟨h1, _⟩, hb⟩; obtain ⟨v3, rfl, hc⟩ := h1 _ HOO.out; obtain ⟨A3, n3, c3, rfl, hc3⟩ := OwC_slice hc; have HC3 := Aside0.mk hc3; replace HB := Aside0.mk (HB.out.trans (hb.mono HB.out.size)); clear hb hc h1 hc3))
                | (go_at_call 18; go_must (refine (same13_yes A3 B0 n3 i c3 bc (l.take i) _ (Kd.C_below HC3.out (Below.refl _ _)) (C_takeCelO (Kd.C_below HR.out HB.out) i HIL.out) (fun x hx => (HT.out x (List.mem_of_mem_take hx)).wf.2.2)).mono ?_; rintro e y4 ⟨rfl, hb⟩; replace HB := Aside0.mk (HB.out.trans (hb.mono HB.out.size)); clear hb))
                | ((with_reducible refine gate_dst (N := 123) rfl ?_); (try (refine gate_guard (by rfl) ?_; dsimp only)); refine litB y1.heap.size rfl (N := 123) rfl [] ?hr HB.out HB.out.size (by simp) ?_; (case hr => first | (go_simp; done) | (go_simp; rfl)); intro v20 w20 ho hb0 hn hb; clear HB; have HB := Aside0.mk hb0; have HO20 := Aside0.mk ho; obtain ⟨A20, c20, rfl, hcap20, hr20⟩ := Ow_slice ho; have HR20 := Aside0.mk hr20; clear hr20 ho hb hb0 hn)
                | ((with_reducible refine gate_dst (N := 125) rfl ?_); (try (refine gate_guard (by rfl) ?_; dsimp only)); refine appB y1.heap.size rfl (.tmp 123) (.tmp 124) rfl rfl _ [] (encAll g) A0 lb k0 rfl rfl HO20.out (Kd.C_below HR0.out HB.out) HB.out HB.out.size (by have := HLB.out; simp; omega) ?_; intro v21 w21 ho hb hg hat; clear HB; have HB := Aside0.mk hb; have HO21 := Aside0.mk ho; clear ho hb hg hat)
                | ((with_reducible refine gate_dst (N := 127) rfl ?_); (try (refine gate_guard (by rfl) ?_; dsimp only)); refine litB y1.heap.size rfl (N := 127) rfl [more] ?hr HB.out HB.out.size (by simp) ?_; (case hr => first | (go_simp; done) | (go_simp; rfl)); intro v22 w22 ho hb0 hn hb; replace HO21 := Aside0.mk (Kd.R_below HO21.out hb); clear HB; have HB := Aside0.mk hb0; have HO22 := Aside0.mk ho; obtain ⟨A22, c22, rfl, hcap22, hr22⟩ := Ow_slice ho; have HR22 := Aside0.mk hr22; clear hr22 ho hb hb0 hn)
                | ((with_reducible refine gate_dst (N := 128) rfl ?_); (try (refine gate_guard (by rfl) ?_; dsimp only)); refine appB y1.heap.size rfl (.tmp 125) (.tmp 127) rfl rfl _ ([] ++ encAll g) [more] A22 1 c22 rfl rfl HO21.out HR22.out HB.out HB.out.size (by have := HLB.out; simp; omega) ?_; intro v23 w23 ho hb hg hat;obtain ⟨A23, n23, c23, rfl, hc23, hr23⟩ := Ow_sliceP ho; have HR23 := Aside0.mk hr23; have HC23 := Aside0.mk hc23; clear hr23 hc23; clear HB; have HB := Aside0.mk hb; have HO23 := Aside0.mk ho; clear ho hb hg hat)
                | (go_at_call 16; (with_reducible refine (open_any A23 n23 c23 ([] ++ encAll g ++ [more]) _ HR23.out HC23.out HBM.out).mono ?_); go_must (rintro e y5 ⟨⟨_, h2⟩, hb⟩; obtain rfl := h2 HODD.out; replace HB := Aside0.mk (HB.out.trans (hb.mono HB.out.size)); clear hb h2)))
                go_ret
                exact ⟨rfl, HB0.out.trans (HB.out.mono HB0.out.size)⟩
            · have HODD := Aside0.mk (show openR ([] ++ encAll g ++ [more]) = none from odd_opens HFG.out (by omega) hm0 hm1)
              have HBM := Aside0.mk (show Byt ([] ++ encAll g ++ [more]) from Byt.append HBY.out (fun y hy => by rw [List.mem_singleton] at hy; subst hy; exact ⟨hm0, hm1⟩))
              have hlb103 : lb ≤ 103 := hgl
              go_wp2_with (first
                | (go_at_call 16; (with_reducible refine (open_any A0 k k0 ((encAll g).take k) _ (RdN_take (Kd.C_below HR0.out HB.out) k HKL.out) (Nat.le_trans HKL.out HK0.out) (HBY.out.take k)).mono ?_); go_must (rintro e y3 ⟨⟨h1, _⟩, hb⟩; obtain ⟨v3, rfl, hc⟩ := h1 _ HOO.out; obtain ⟨A3, n3, c3, rfl, hc3⟩ := OwC_slice hc; have HC3 := Aside0.mk hc3; replace HB := Aside0.mk (HB.out.trans (hb.mono HB.out.size)); clear hb hc h1 hc3))
                | (go_at_call 18; go_must (refine (same13_yes A3 B0 n3 i c3 bc (l.take i) _ (Kd.C_below HC3.out (Below.refl _ _)) (C_takeCelO (Kd.C_below HR.out HB.out) i HIL.out) (fun x hx => (HT.out x (List.mem_of_mem_take hx)).wf.2.2)).mono ?_; rintro e y4 ⟨rfl, hb⟩; replace HB := Aside0.mk (HB.out.trans (hb.mono HB.out.size)); clear hb))
                | ((with_reducible refine gate_dst (N := 123) rfl ?_); (try (refine gate_guard (by rfl) ?_; dsimp only)); refine litB y1.heap.size rfl (N := 123) rfl [] ?hr HB.out HB.out.size (by simp) ?_; (case hr => first | (go_simp; done) | (go_simp; rfl)); intro v20 w20 ho hb0 hn hb; clear HB; have HB := Aside0.mk hb0; have HO20 := Aside0.mk ho; obtain ⟨A20, c20, rfl, hcap20, hr20⟩ := Ow_slice ho; have HR20 := Aside0.mk hr20; clear hr20 ho hb hb0 hn)
                | ((with_reducible refine gate_dst (N := 125) rfl ?_); (try (refine gate_guard (by rfl) ?_; dsimp only)); refine appB y1.heap.size rfl (.tmp 123) (.tmp 124) rfl rfl _ [] (encAll g) A0 lb k0 rfl rfl HO20.out (Kd.C_below HR0.out HB.out) HB.out HB.out.size (by have := HLB.out; simp; omega) ?_; intro v21 w21 ho hb hg hat; clear HB; have HB := Aside0.mk hb; have HO21 := Aside0.mk ho; clear ho hb hg hat)
                | ((with_reducible refine gate_dst (N := 127) rfl ?_); (try (refine gate_guard (by rfl) ?_; dsimp only)); refine litB y1.heap.size rfl (N := 127) rfl [more] ?hr HB.out HB.out.size (by simp) ?_; (case hr => first | (go_simp; done) | (go_simp; rfl)); intro v22 w22 ho hb0 hn hb; replace HO21 := Aside0.mk (Kd.R_below HO21.out hb); clear HB; have HB := Aside0.mk hb0; have HO22 := Aside0.mk ho; obtain ⟨A22, c22, rfl, hcap22, hr22⟩ := Ow_slice ho; have HR22 := Aside0.mk hr22; clear hr22 ho hb hb0 hn)
                | ((with_reducible refine gate_dst (N := 128) rfl ?_); (try (refine gate_guard (by rfl) ?_; dsimp only)); refine appB y1.heap.size rfl (.tmp 125) (.tmp 127) rfl rfl _ ([] ++ encAll g) [more] A22 1 c22 rfl rfl HO21.out HR22.out HB.out HB.out.size (by have := HLB.out; simp; omega) ?_; intro v23 w23 ho hb hg hat;obtain ⟨A23, n23, c23, rfl, hc23, hr23⟩ := Ow_sliceP ho; have HR23 := Aside0.mk hr23; have HC23 := Aside0.mk hc23; clear hr23 hc23; clear HB; have HB := Aside0.mk hb; have HO23 := Aside0.mk ho; clear ho hb hg hat)
                | (go_at_call 16; (with_reducible refine (open_any A23 n23 c23 ([] ++ encAll g ++ [more]) _ HR23.out HC23.out HBM.out).mono ?_); go_must (rintro e y5 ⟨⟨_, h2⟩, hb⟩; obtain rfl := h2 HODD.out; replace HB := Aside0.mk (HB.out.trans (hb.mono HB.out.size)); clear hb h2)))
              go_ret
              exact ⟨rfl, HB0.out.trans (HB.out.mono HB0.out.size)⟩
          | false =>
            have HNE := Aside0.mk (of_decide_eq_false HWH.out.symm)
            have HOO := Aside0.mk (show openR ((encAll g).take k) = none by
              refine HOPEN.out.2 (fun j hj he => ?_)
              rw [HGL.out] at hj
              rw [HLG.out j hj] at he
              have h1 := HML.out
              rcases Nat.lt_trichotomy j i with h | h | h
              · have := HJ.out j h; omega
              · subst h; exact HNE.out he
              · have := lenA_mono HFL.out h (by omega); have := HGE.out; omega)
            by_cases hm2 : 1 ≤ more
            · by_cases hm3 : more ≤ 8
              · go_wp2_with (first
                  | (go_at_call 16; (with_reducible refine (open_any A0 k k0 ((encAll g).take k) _ (RdN_take (Kd.C_below HR0.out HB.out) k HKL.out) (Nat.le_trans HKL.out HK0.out) (HBY.out.take k)).mono ?_); go_must (rintro e y3 ⟨⟨_, h2⟩, hb⟩; obtain rfl := h2 HOO.out; replace HB := Aside0.mk (HB.out.trans (hb.mono HB.out.size)); clear hb h2)))
                go_ret
                exact ⟨rfl, HB0.out.trans (HB.out.mono HB0.out.size)⟩
              · have HODD := Aside0.mk (show openR ([] ++ encAll g ++ [more]) = none from odd_opens HFG.out (by omega) hm0 hm1)
                have HBM := Aside0.mk (show Byt ([] ++ encAll g ++ [more]) from Byt.append HBY.out (fun y hy => by rw [List.mem_singleton] at hy; subst hy; exact ⟨hm0, hm1⟩))
                have hlb103 : lb ≤ 103 := hgl
                go_wp2_with (first
                | (go_at_call 16; (with_reducible refine (open_any A0 k k0 ((encAll g).take k) _ (RdN_take (Kd.C_below HR0.out HB.out) k HKL.out) (Nat.le_trans HKL.out HK0.out) (HBY.out.take k)).mono ?_); go_must (rintro e y3 ⟨⟨_, h2⟩, hb⟩; obtain rfl := h2 HOO.out; replace HB := Aside0.mk (HB.out.trans (hb.mono HB.out.size)); clear hb h2))
                | ((with_reducible refine gate_dst (N := 123) rfl ?_); (try (refine gate_guard (by rfl) ?_; dsimp only)); refine litB y1.heap.size rfl (N := 123) rfl [] ?hr HB.out HB.out.size (by simp) ?_; (case hr => first | (go_simp; done) | (go_simp; rfl)); intro v20 w20 ho hb0 hn hb; clear HB; have HB := Aside0.mk hb0; have HO20 := Aside0.mk ho; obtain ⟨A20, c20, rfl, hcap20, hr20⟩ := Ow_slice ho; have HR20 := Aside0.mk hr20; clear hr20 ho hb hb0 hn)
                | ((with_reducible refine gate_dst (N := 125) rfl ?_); (try (refine gate_guard (by rfl) ?_; dsimp only)); refine appB y1.heap.size rfl (.tmp 123) (.tmp 124) rfl rfl _ [] (encAll g) A0 lb k0 rfl rfl HO20.out (Kd.C_below HR0.out HB.out) HB.out HB.out.size (by have := HLB.out; simp; omega) ?_; intro v21 w21 ho hb hg hat; clear HB; have HB := Aside0.mk hb; have HO21 := Aside0.mk ho; clear ho hb hg hat)
                | ((with_reducible refine gate_dst (N := 127) rfl ?_); (try (refine gate_guard (by rfl) ?_; dsimp only)); refine litB y1.heap.size rfl (N := 127) rfl [more] ?hr HB.out HB.out.size (by simp) ?_; (case hr => first | (go_simp; done) | (go_simp; rfl)); intro v22 w22 ho hb0 hn hb; replace HO21 := Aside0.mk (Kd.R_below HO21.out hb); clear HB; have HB := Aside0.mk hb0; have HO22 := Aside0.mk ho; obtain ⟨A22, c22, rfl, hcap22, hr22⟩ := Ow_slice ho; have HR22 := Aside0.mk hr22; clear hr22 ho hb hb0 hn)
                | ((with_reducible refine gate_dst (N := 128) rfl ?_); (try (refine gate_guard (by rfl) ?_; dsimp only)); refine appB y1.heap.size rfl (.tmp 125) (.tmp 127) rfl rfl _ ([] ++ encAll g) [more] A22 1 c22 rfl rfl HO21.out HR22.out HB.out HB.out.size (by have := HLB.out; simp; omega) ?_; intro v23 w23 ho hb hg hat;obtain ⟨A23, n23, c23, rfl, hc23, hr23⟩ := Ow_sliceP ho; have HR23 := Aside0.mk hr23; have HC23 := Aside0.mk hc23; clear hr23 hc23; clear HB; have HB := Aside0.mk hb; have HO23 := Aside0.mk ho; clear ho hb hg hat)
                | (go_at_call 16; (with_reducible refine (open_any A23 n23 c23 ([] ++ encAll g ++ [more]) _ HR23.out HC23.out HBM.out).mono ?_); go_must (rintro e y5 ⟨⟨_, h2⟩, hb⟩; obtain rfl := h2 HODD.out; replace HB := Aside0.mk (HB.out.trans (hb.mono HB.out.size)); clear hb h2)))
                go_ret
                exact ⟨rfl, HB0.out.trans (HB.out.mono HB0.out.size)⟩
            · have HODD := Aside0.mk (show openR ([] ++ encAll g ++ [more]) = none from odd_opens HFG.out (by omega) hm0 hm1)
              have HBM := Aside0.mk (show Byt ([] ++ encAll g ++ [more]) from Byt.append HBY.out (fun y hy => by rw [List.mem_singleton] at hy; subst hy; exact ⟨hm0, hm1⟩))
              have hlb103 : lb ≤ 103 := hgl
              go_wp2_with (first
                | (go_at_call 16; (with_reducible refine (open_any A0 k k0 ((encAll g).take k) _ (RdN_take (Kd.C_below HR0.out HB.out) k HKL.out) (Nat.le_trans HKL.out HK0.out) (HBY.out.take k)).mono ?_); go_must (rintro e y3 ⟨⟨_, h2⟩, hb⟩; obtain rfl := h2 HOO.out; replace HB := Aside0.mk (HB.out.trans (hb.mono HB.out.size)); clear hb h2))
                | ((with_reducible refine gate_dst (N := 123) rfl ?_); (try (refine gate_guard (by rfl) ?_; dsimp only)); refine litB y1.heap.size rfl (N := 123) rfl [] ?hr HB.out HB.out.size (by simp) ?_; (case hr => first | (go_simp; done) | (go_simp; rfl)); intro v20 w20 ho hb0 hn hb; clear HB; have HB := Aside0.mk hb0; have HO20 := Aside0.mk ho; obtain ⟨A20, c20, rfl, hcap20, hr20⟩ := Ow_slice ho; have HR20 := Aside0.mk hr20; clear hr20 ho hb hb0 hn)
                | ((with_reducible refine gate_dst (N := 125) rfl ?_); (try (refine gate_guard (by rfl) ?_; dsimp only)); refine appB y1.heap.size rfl (.tmp 123) (.tmp 124) rfl rfl _ [] (encAll g) A0 lb k0 rfl rfl HO20.out (Kd.C_below HR0.out HB.out) HB.out HB.out.size (by have := HLB.out; simp; omega) ?_; intro v21 w21 ho hb hg hat; clear HB; have HB := Aside0.mk hb; have HO21 := Aside0.mk ho; clear ho hb hg hat)
                | ((with_reducible refine gate_dst (N := 127) rfl ?_); (try (refine gate_guard (by rfl) ?_; dsimp only)); refine litB y1.heap.size rfl (N := 127) rfl [more] ?hr HB.out HB.out.size (by simp) ?_; (case hr => first | (go_simp; done) | (go_simp; rfl)); intro v22 w22 ho hb0 hn hb; replace HO21 := Aside0.mk (Kd.R_below HO21.out hb); clear HB; have HB := Aside0.mk hb0; have HO22 := Aside0.mk ho; obtain ⟨A22, c22, rfl, hcap22, hr22⟩ := Ow_slice ho; have HR22 := Aside0.mk hr22; clear hr22 ho hb hb0 hn)
                | ((with_reducible refine gate_dst (N := 128) rfl ?_); (try (refine gate_guard (by rfl) ?_; dsimp only)); refine appB y1.heap.size rfl (.tmp 125) (.tmp 127) rfl rfl _ ([] ++ encAll g) [more] A22 1 c22 rfl rfl HO21.out HR22.out HB.out HB.out.size (by have := HLB.out; simp; omega) ?_; intro v23 w23 ho hb hg hat;obtain ⟨A23, n23, c23, rfl, hc23, hr23⟩ := Ow_sliceP ho; have HR23 := Aside0.mk hr23; have HC23 := Aside0.mk hc23; clear hr23 hc23; clear HB; have HB := Aside0.mk hb; have HO23 := Aside0.mk ho; clear ho hb hg hat)
                | (go_at_call 16; (with_reducible refine (open_any A23 n23 c23 ([] ++ encAll g ++ [more]) _ HR23.out HC23.out HBM.out).mono ?_); go_must (rintro e y5 ⟨⟨_, h2⟩, hb⟩; obtain rfl := h2 HODD.out; replace HB := Aside0.mk (HB.out.trans (hb.mono HB.out.size)); clear hb h2)))
              go_ret
              exact ⟨rfl, HB0.out.trans (HB.out.mono HB0.out.size)⟩
end Go.Proofs.Ytghcnipehgjegaa.Cell
