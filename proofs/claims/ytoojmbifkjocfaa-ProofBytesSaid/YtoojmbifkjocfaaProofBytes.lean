/- ProofBytes answers true for all bytes, every place and every byte more. No conditions. -/
import Derived.Test.YtoojmbifkjocfaaProofDecode
import Derived.Test.YtoojmbifkjocfaaProofUse
import Derived.Test.YtoojmbifkjocfaaSame01
namespace Go.Proofs.Ytoojmbifkjocfaa.Proof
open Go.RowKit Go.Proofs.YtoojmbifkjocfaaW.PrintWords Go.Proofs.YtoojmbifkjocfaaW.PrintLast Go.Proofs.YtoojmbifkjocfaaW.PrintMore Go.Proofs.Ytoojmbifkjocfaa.Kit Go.Proofs.Ytoojmbifkjocfaa.Plain Go.Proofs.Ytoojmbifkjocfaa.Wire
set_option linter.unusedVariables false
set_option linter.unusedSimpArgs false
theorem byt_snoc {b : List Int} {x : Int} (h : Byt b) (hx : 0 ≤ x ∧ x < 256) : Byt ([] ++ b ++ [x]) := fun y hy => by
  rcases List.mem_append.1 hy with hy | hy
  · exact h y hy
  · rw [List.mem_singleton] at hy
    subst hy
    exact hx
theorem Ow_sliceN {w : World} {base : Nat} {v : Value} {l : List Int} (h : OwB w base v l) : ∃ A n c, v = .slice A n c ∧ n ≤ c ∧ RdN w A n l := by
  obtain ⟨A, c, rfl, h1, h2⟩ := Ow_slice h
  exact ⟨A, _, c, rfl, h1, h2⟩
theorem decodeP_anyN (A : Option Addr) (n c : Nat) (b : List Int) (w : World) (hr : RdN w A n b) (hc : n ≤ c) (hy : Byt b) :
    Calls Try.prog 17 #[.slice A n c] w fun x w' => FdR w w' x (decP b).1 (decP b).2 := by
  obtain rfl := C_len hr
  exact decodeP_any A c b w hr hc hy
set_option maxHeartbeats 3200000 in
set_option maxRecDepth 100000 in
theorem pbytes_any (A : Option Addr) (c : Nat) (b : List Int) (at_ more : Int) (w : World) (hr : RdB w A b) (hc : b.length ≤ c) (hy : Byt b) (ha0 : 0 ≤ at_) (ha1 : at_ < 65536) (hm : 0 ≤ more ∧ more < 256) :
    Calls Try.prog 8 #[.slice A b.length c, .int .u16 at_, .int .u8 more] w fun e w' => e = .returned (.bool true) ∧ Below w.heap.size w w' := by
  have hmx := C_max hr
  have HR := Aside0.mk hr
  have HC := Aside0.mk hc
  have HY := Aside0.mk hy
  have HM := Aside0.mk hm
  clear hr hc hy hm
  have HB := Aside0.mk (Below.refl w.heap.size w)
  by_cases hlen : 400 < b.length
  · have g0 : decide (400 < (b.length : Int)) = true := decide_eq_true (by omega)
    go_enter Try.func8, Try.ntmps8
    go_wp2_with (go_at_call 10; refine (awake_any _).mono ?_; rintro e w1 ⟨rfl, hb⟩; clear HB; have HB := Aside0.mk hb; clear hb)
    go_ret
    exact ⟨rfl, HB.out⟩
  have g0 : decide (400 < (b.length : Int)) = false := decide_eq_false (by omega)
  have HLN := Aside0.mk (show b.length ≤ 400 by omega)
  clear hlen
  obtain ⟨r, hr⟩ : ∃ r, r = decP b := ⟨_, rfl⟩
  obtain ⟨⟨m, ok, L⟩, er⟩ := r
  by_cases he : er = 0
  · subst he
    obtain ⟨henc, hll⟩ := enc_dec HY.out hr.symm
    simp only at henc hll
    have HENC := Aside0.mk henc
    have HLL := Aside0.mk hll
    have HDE := Aside0.mk hr.symm
    have hpos : 0 < b.length := by rw [← henc, encP_len]; omega
    obtain ⟨k, hk⟩ : ∃ k : Nat, k = at_.toNat % b.length := ⟨_, rfl⟩
    have hkl : k < b.length := by rw [hk]; exact Nat.mod_lt _ hpos
    have er1 : at_.tmod (b.length : Int) = (k : Int) := by
      rw [Int.tmod_eq_emod_of_nonneg ha0, hk, Int.natCast_emod]
      congr 1
      omega
    have er2 : IntKind.i64.wrap at_ = at_ := IntWalk.i64_in _ (by omega)
    have er3 : IntKind.i64.wrap (k : Int) = (k : Int) := IntWalk.i64_in _ (by omega)
    have hz : (b.length : Int) ≠ 0 := by omega
    have hz0 : ((b.length : Int) == 0) = false := beq_eq_false_iff_ne.2 hz
    have ct := cutTo A b.length c k (by omega) HC.out .i64
    have HCUT := Aside0.mk (decP_cut hr.symm k hkl)
    have HMORE := Aside0.mk (decP_more hr.symm more)
    have HKL := Aside0.mk hkl
    clear hr henc hll hk hkl hpos
    go_enter Try.func8, Try.ntmps8
    go_upto_region 6 with (first
      | (go_at_call 10; refine (awake_any _).mono ?_; rintro e w1 ⟨rfl, hb⟩; clear HB; have HB := Aside0.mk hb; clear hb)
      | (go_at_call 17; go_must (refine (decodeP_any A c b _ (Kd.C_below HR.out HB.out) HC.out HY.out).mono ?_; rintro e y2 hd; rw [HDE.out] at hd; obtain ⟨⟨v, rfl, hl⟩, hb⟩ := hd; simp only at hl ⊢; obtain ⟨A8, c8, rfl⟩ := Kd.R_slice hl; have HL := Aside0.mk hl; replace HB := Aside0.mk (HB.out.trans (hb.mono HB.out.size)); clear hb hl)))
    obtain ⟨w3, hw3⟩ : ∃ w3, w3 = y2.alloc (.cells #[.int .u64 m, .bool ok, .slice A8 L.length c8] 25) := ⟨_, rfl⟩
    rw [← hw3]
    have hb : Below y2.heap.size y2 w3 := by rw [hw3]; exact below_alloc (Below.refl _ _) _
    have hx : w3.heap[y2.heap.size]? = some (foundObj m ok (.slice A8 L.length c8)) := by rw [hw3]; exact blk_new _ _
    obtain ⟨x0, x1, x2⟩ := found_cells hx
    have HL4 := Aside0.mk (Kd.C_below (Kd.R_reads' HL.out).2.2 hb)
    replace HB := Aside0.mk (HB.out.trans (hb.mono HB.out.size));
    clear hw3 hb hx HL
    go_upto_region 11 with (first
      | (go_at_call 18; go_must (refine (encodeP_any m ok A8 L.length c8 L _ HL4.out HLL.out).mono ?_; rintro e y6 ⟨⟨v5, rfl, ho⟩, hb⟩; rw [HENC.out] at ho; obtain ⟨A5, k5, rfl, hk5, hr5⟩ := Ow_slice ho; have HR5 := Aside0.mk hr5; replace HB := Aside0.mk (HB.out.trans (hb.mono HB.out.size)); clear hb ho hk5 hr5))
      | (go_at_call 19; go_must (refine (same_yes A5 b.length k5 b A b.length c b _ HR5.out (Kd.C_below HR.out HB.out) rfl).mono ?_; rintro e y7 ⟨rfl, hd⟩; replace HB := Aside0.mk (drawn_below HB.out hd); clear hd)))
    go_upto_region 12 with (go_at_call 17; go_must (refine (decodeP_anyN A k c (b.take k) _ (RdN_take (Kd.C_below HR.out HB.out) k (Nat.le_of_lt HKL.out)) (by have := HKL.out; have := HC.out; omega) (HY.out.take k)).mono ?_; rintro e y9 hd; rw [HCUT.out] at hd; obtain ⟨⟨v9, rfl, hl⟩, hb⟩ := hd; simp only at hl ⊢; obtain ⟨A9, c9, rfl⟩ := Kd.R_slice hl; simp only [List.length_nil]; replace HB := Aside0.mk (HB.out.trans (hb.mono HB.out.size)); clear hb hl))
    obtain ⟨w10, hw10⟩ : ∃ w10, w10 = y9.alloc (.cells #[.int .u64 0, .bool false, .slice A9 0 c9] 25) := ⟨_, rfl⟩
    rw [← hw10]
    have hb : Below y9.heap.size y9 w10 := by rw [hw10]; exact below_alloc (Below.refl _ _) _
    replace HB := Aside0.mk (HB.out.trans (hb.mono HB.out.size));
    clear hw10 hb x0 x1 x2
    go_wp2_with (first
      | ((with_reducible refine gate_dst (N := 74) rfl ?_); (try (refine gate_guard (by rfl) ?_; dsimp only)); refine litB w.heap.size rfl (N := 74) rfl [] ?hr HB.out HB.out.size (by simp) ?_; (case hr => first | (go_simp; done) | (go_simp; rfl)); intro v20 w20 ho hb0 hn hb; clear HB; have HB := Aside0.mk hb0; have HO20 := Aside0.mk ho; obtain ⟨A20, c20, rfl, hcap20, hr20⟩ := Ow_slice ho; have HR20 := Aside0.mk hr20; clear hr20 ho hb hb0 hn)
      | ((with_reducible refine gate_dst (N := 76) rfl ?_); (try (refine gate_guard (by rfl) ?_; dsimp only)); refine appB w.heap.size rfl (.tmp 74) (.tmp 75) rfl rfl _ [] b A b.length c rfl rfl HO20.out (Kd.C_below HR.out HB.out) HB.out HB.out.size (by have := HLN.out; simp; omega) ?_; intro v21 w21 ho hb hg hat; clear HB; have HB := Aside0.mk hb; have HO21 := Aside0.mk ho; clear ho hb hg hat)
      | ((with_reducible refine gate_dst (N := 78) rfl ?_); (try (refine gate_guard (by rfl) ?_; dsimp only)); refine litB w.heap.size rfl (N := 78) rfl [more] ?hr HB.out HB.out.size (by simp) ?_; (case hr => first | (go_simp; done) | (go_simp; rfl)); intro v22 w22 ho hb0 hn hb; replace HO21 := Aside0.mk (Kd.R_below HO21.out hb); clear HB; have HB := Aside0.mk hb0; have HO22 := Aside0.mk ho; obtain ⟨A22, c22, rfl, hcap22, hr22⟩ := Ow_slice ho; have HR22 := Aside0.mk hr22; clear hr22 ho hb hb0 hn)
      | ((with_reducible refine gate_dst (N := 79) rfl ?_); (try (refine gate_guard (by rfl) ?_; dsimp only)); refine appB w.heap.size rfl (.tmp 76) (.tmp 78) rfl rfl _ ([] ++ b) [more] A22 1 c22 rfl rfl HO21.out HR22.out HB.out HB.out.size (by have := HLN.out; simp; omega) ?_; intro v23 w23 ho hb hg hat;obtain ⟨A23, n23, c23, rfl, hc23, hr23⟩ := Ow_sliceN ho; have HR23 := Aside0.mk hr23; have HC23 := Aside0.mk hc23; clear hr23 hc23; clear HB; have HB := Aside0.mk hb; have HO23 := Aside0.mk ho; clear ho hb hg hat)
      | (go_at_call 17; go_must (refine (decodeP_anyN A23 n23 c23 ([] ++ b ++ [more]) _ HR23.out HC23.out (byt_snoc HY.out HM.out)).mono ?_; rintro e y11 hd; rw [show ([] ++ b ++ [more] : List Int) = b ++ [more] from rfl, HMORE.out] at hd; obtain ⟨⟨v11, rfl, hl⟩, hb⟩ := hd; simp only at hl ⊢; obtain ⟨A11, c11, rfl⟩ := Kd.R_slice hl; simp only [List.length_nil]; replace HB := Aside0.mk (HB.out.trans (hb.mono HB.out.size)); clear hb hl)))
    go_ret
    exact ⟨rfl, HB.out.alloc HB.out.size _⟩
  · obtain ⟨hf, he2⟩ := decP_no hr.symm he
    simp only [Prod.mk.injEq] at hf
    obtain ⟨rfl, rfl, rfl⟩ := hf
    have HDE := Aside0.mk hr.symm
    clear hr he
    rcases he2 with rfl | rfl
    · go_enter Try.func8, Try.ntmps8
      go_wp2_with (first
        | (go_at_call 10; refine (awake_any _).mono ?_; rintro e w1 ⟨rfl, hb⟩; clear HB; have HB := Aside0.mk hb; clear hb)
        | (go_at_call 17; go_must (refine (decodeP_any A c b _ (Kd.C_below HR.out HB.out) HC.out HY.out).mono ?_; rintro e y2 hd; rw [HDE.out] at hd; obtain ⟨⟨v, rfl, hl⟩, hb⟩ := hd; simp only at hl ⊢; obtain ⟨A8, c8, rfl⟩ := Kd.R_slice hl; simp only [List.length_nil]; replace HB := Aside0.mk (HB.out.trans (hb.mono HB.out.size)); clear hb hl)))
      go_ret
      exact ⟨rfl, HB.out.alloc HB.out.size _⟩
    · go_enter Try.func8, Try.ntmps8
      go_wp2_with (first
        | (go_at_call 10; refine (awake_any _).mono ?_; rintro e w1 ⟨rfl, hb⟩; clear HB; have HB := Aside0.mk hb; clear hb)
        | (go_at_call 17; go_must (refine (decodeP_any A c b _ (Kd.C_below HR.out HB.out) HC.out HY.out).mono ?_; rintro e y2 hd; rw [HDE.out] at hd; obtain ⟨⟨v, rfl, hl⟩, hb⟩ := hd; simp only at hl ⊢; obtain ⟨A8, c8, rfl⟩ := Kd.R_slice hl; simp only [List.length_nil]; replace HB := Aside0.mk (HB.out.trans (hb.mono HB.out.size)); clear hb hl)))
      go_ret
      exact ⟨rfl, HB.out.alloc HB.out.size _⟩
end Go.Proofs.Ytoojmbifkjocfaa.Proof
