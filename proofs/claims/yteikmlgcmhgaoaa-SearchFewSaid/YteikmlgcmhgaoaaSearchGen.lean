/- What search.Last and search.Each answer, of any moments, whatever is asked (a closure, or none), by a stage T that tells where they stand. Conditions stand in each statement. -/
import Derived.Test.YteikmlgcmhgaoaaSearch
import Derived.IntWalk
import Derived.Outline
import Derived.Deep.DeepMust
namespace Go.Proofs.Yteikmlgcmhgaoaa.Search
open Go.RowKit Go.Proofs.YteikmlgcmhgaoaaW.PrintWords Go.Proofs.YteikmlgcmhgaoaaW.PrintLast Go.Proofs.YteikmlgcmhgaoaaW.PrintMore Go.Proofs.Yteikmlgcmhgaoaa.Kit Go.Proofs.Yteikmlgcmhgaoaa.Plain
set_option linter.unusedVariables false
set_option linter.unusedSimpArgs false

/-- Only the blocks g and g + 1 have been written. -/
structure Only (g : Nat) (W w' : World) : Prop where
  os : w'.os = W.os
  tape : w'.tape = W.tape
  output : w'.output = W.output
  size : w'.heap.size = W.heap.size
  block : ∀ k, k ≠ g → k ≠ g + 1 → w'.heap[k]? = W.heap[k]?
theorem Only.refl (g : Nat) (W : World) : Only g W W := { os := rfl, tape := rfl, output := rfl, size := rfl, block := fun _ _ _ => rfl }
theorem Only.step {g k : Nat} {W w1 : World} (h : Only g W w1) (hk : k = g ∨ k = g + 1) (i : Nat) (v : Value) : Only g W (w1.setCell ⟨k, i, none⟩ v) := by
  have hb : Below k w1 (w1.setCell ⟨k, i, none⟩ v) := (Below.refl k w1).setCell (Nat.le_refl _) v
  refine ⟨hb.os.trans h.os, hb.tape.trans h.tape, hb.output.trans h.output, ?_, fun j h1 h2 => ?_⟩
  · simp [h.size]
  · rw [← h.block j h1 h2]
    have hkb := (KeepBut.refl w1 k none).set_ i v
    by_cases hj : j < w1.heap.size
    · exact hkb.2 j hj (by omega) (by simp)
    · rw [Array.getElem?_eq_none (by simp; omega), Array.getElem?_eq_none (by omega)]
theorem Only.s0 {g : Nat} {W w1 : World} (h : Only g W w1) (i : Nat) (v : Value) : Only g W (w1.setCell ⟨g, i, none⟩ v) := h.step (.inl rfl) i v
theorem Only.s1 {g : Nat} {W w1 : World} (h : Only g W w1) (i : Nat) (v : Value) : Only g W (w1.setCell ⟨g + 1, i, none⟩ v) := h.step (.inr rfl) i v

/-- What the two blocks of a search hold. -/
structure Two (g : Nat) (W : World) (v : Value) : Prop where
  h4 : W.heap[g]? = some (foundObj 0 false (.slice none 0 0))
  h5 : W.heap[g + 1]? = some (foundObj 0 false v)
theorem Two.cells {g : Nat} {W : World} {v : Value} (h : Two g W v) :
    (W.cell? ⟨g, 0, none⟩ = some (.int .u64 0) ∧ W.cell? ⟨g, 1, none⟩ = some (.bool false) ∧ W.cell? ⟨g, 2, none⟩ = some (.slice none 0 0) ∧
     W.frozen? ⟨g, 0, none⟩ = false ∧ W.frozen? ⟨g, 1, none⟩ = false ∧ W.frozen? ⟨g, 2, none⟩ = false) ∧
    (W.cell? ⟨g + 1, 0, none⟩ = some (.int .u64 0) ∧ W.cell? ⟨g + 1, 1, none⟩ = some (.bool false) ∧ W.cell? ⟨g + 1, 2, none⟩ = some v ∧
     W.frozen? ⟨g + 1, 0, none⟩ = false ∧ W.frozen? ⟨g + 1, 1, none⟩ = false ∧ W.frozen? ⟨g + 1, 2, none⟩ = false) :=
  ⟨⟨blk_cell h.h4 0, blk_cell h.h4 1, blk_cell h.h4 2, blk_frozen h.h4 0, blk_frozen h.h4 1, blk_frozen h.h4 2⟩, ⟨blk_cell h.h5 0, blk_cell h.h5 1, blk_cell h.h5 2, blk_frozen h.h5 0, blk_frozen h.h5 1, blk_frozen h.h5 2⟩⟩
theorem C_at' {W : World} {ad : Addr} {n : Nat} {l : List Int} (h : RdM W (some ad) n l) (i : Nat) (hi : i < n) : W.cell? (ad.add i) = some (.int .u64 (nth l i)) := by
  obtain ⟨ad', he, hc⟩ := C_at h i hi
  injection he with he
  subst he
  exact hc
theorem C_at0 {W : World} {ad : Addr} {n : Nat} {l : List Int} (h : RdM W (some ad) n l) (hi : 0 < n) : W.cell? ad = some (.int .u64 (nth l 0)) := by
  exact C_at' h 0 hi
/-- The world in which Last and Each start to look. -/
abbrev made (w : World) : World := (w.alloc (.cells #[.int .u64 0, .bool false, .slice none 0 0] 31)).alloc (.cells #[.int .u64 0, .bool false, .slice none 0 0] 31)
/-- What a search asks, and where it stands. -/
structure Asks (A : Option Addr) (n : Nat) (l : List Int) (w : World) (fv : Value) (bad : Int → Bool) (T : World → Value → List (Int × Bool) → Prop) : Prop where
  two : ∀ W v xs, T W v xs → Two w.heap.size W v
  rd : ∀ W v xs, T W v xs → RdM W A n l
  start : ∀ w1, Below (made w).heap.size (made w) w1 → T w1 (.slice none 0 0) []
  look : ∀ W A k c xs m, T W (.slice A k c) xs → xs.length = k → 0 ≤ m → k ≤ 1000000 →
    Calls Try.prog 24 #[.pointer (some ⟨w.heap.size + 1, 0, none⟩), .int .u64 m, fv] W fun e w' => e = .returned (.bool (bad m)) ∧ ∃ A c, T w' (.slice A (k + 1) c) (xs ++ [(m, bad m)])

set_option maxHeartbeats 1600000 in
set_option maxRecDepth 100000 in
theorem last_any (A : Option Addr) (n c : Nat) (l : List Int) (w : World) (fv : Value) (bad : Int → Bool) (T : World → Value → List (Int × Bool) → Prop)
    (hr : RdM w A n l) (hl : ∀ x ∈ l, 0 ≤ x) (hn : n ≤ 100000) (hT : Asks A n l w fv bad T) :
    Calls Try.prog 14 #[.slice A n c, fv] w fun e w' =>
      ∃ v W, e = .returned (.agg #[.int .u64 (lastS l bad).m, .bool (lastS l bad).ok, v]) ∧ T W v (lastS l bad).l ∧ Only w.heap.size W w' := by
  obtain rfl := C_len hr
  have HR := Aside0.mk hr
  have H := Aside0.mk hT
  clear hr hT
  by_cases hrise : riseB l = false
  · have HE : Aside0 (lastS l bad = ⟨0, false, []⟩) := ⟨by rw [lastS, if_pos hrise]⟩
    go_enter Try.func14, Try.ntmps14
    go_wp2_with (go_at_call 23; refine (rise_any _ _ _ l _ (Kd.C_below HR.out (below_alloc (below_alloc (Below.refl _ _) _) _))).mono ?_; rintro e w1 ⟨rfl, hb⟩; rw [hrise]; have HS := Aside0.mk (H.out.start _ hb); clear hb; obtain ⟨⟨p0, p1, p2, zp0, zp1, zp2⟩, ⟨q0, q1, q2, zq0, zq1, zq2⟩⟩ := (H.out.two _ _ _ HS.out).cells)
    refine bodyPost_ret (v := .agg #[.int .u64 0, .bool false, .slice none 0 0]) (by simp [results, Try.results14, go_sem, p0, p1, p2]) rfl ?_; exact ⟨_, _, by rw [HE.out], by rw [HE.out]; exact HS.out, (((Only.refl _ _).s0 _ _).s0 _ _).s0 _ _⟩
  have hrise1 : riseB l = true := by simpa using hrise
  obtain ⟨hl0, _⟩ := riseB_spec hrise1
  obtain ⟨K, hK⟩ : ∃ K, K = l.length - 1 := ⟨_, rfl⟩
  have hKl : K < l.length := by omega
  have eK : (l.length : Int) - 1 = (K : Int) := by omega
  obtain ⟨ad, rfl, _⟩ := C_at HR.out K hKl
  have hmK : 0 ≤ nth l K := hl _ (nth_mem hKl)
  by_cases hb1 : bad (nth l K) = false
  · have HE : Aside0 (lastS l bad = ⟨nth l K, true, [(nth l K, bad (nth l K))]⟩) := ⟨by rw [lastS, if_neg hrise, ← hK, if_pos hb1, hb1]⟩
    have HB1 := Aside0.mk hb1
    clear hK hb1 hrise
    go_enter Try.func14, Try.ntmps14
    go_wp2_with (first
      | (go_at_call 23; refine (rise_any _ _ _ l _ (Kd.C_below HR.out (below_alloc (below_alloc (Below.refl _ _) _) _))).mono ?_; rintro e w1 ⟨rfl, hb⟩; rw [hrise1]; have HS := Aside0.mk (H.out.start _ hb); clear hb; obtain ⟨⟨p0, p1, p2, zp0, zp1, zp2⟩, ⟨q0, q1, q2, zq0, zq1, zq2⟩⟩ := (H.out.two _ _ _ HS.out).cells; have hcx := C_at' (H.out.rd _ _ _ HS.out) K hKl)
      | (go_at_call 24; ((with_reducible refine (H.out.look _ _ _ _ _ (nth l K) HS.out rfl hmK (by omega)).mono ?_); rintro e w2 ⟨rfl, A2, c2, hs2⟩; rw [HB1.out]; clear p0 p1 p2 zp0 zp1 zp2 q0 q1 q2 zq0 zq1 zq2; clear HS; have HS := Aside0.mk hs2; clear hs2; obtain ⟨⟨p0, p1, p2, zp0, zp1, zp2⟩, ⟨q0, q1, q2, zq0, zq1, zq2⟩⟩ := (H.out.two _ _ _ HS.out).cells; replace hcx := C_at' (H.out.rd _ _ _ HS.out) K hKl)))
    refine bodyPost_ret (v := .agg #[.int .u64 (nth l K), .bool true, .slice A2 1 c2]) (by simp [results, Try.results14, go_sem, p0, p1, p2]) rfl ?_; exact ⟨_, _, by rw [HE.out], by rw [HE.out]; exact HS.out, (((((Only.refl _ _).s1 _ _).s1 _ _).s0 _ _).s0 _ _).s0 _ _⟩
  have hb1' : bad (nth l K) = true := by simpa using hb1
  by_cases hK0 : K = 0
  · have HE : Aside0 (lastS l bad = ⟨0, false, [(nth l K, bad (nth l K))]⟩) := ⟨by rw [lastS, if_neg hrise, ← hK, if_neg hb1, if_pos hK0, hb1']⟩
    have HB1 := Aside0.mk hb1'
    have hK00 : ((K : Int) == 0) = true := by simp [hK0]
    have hK01 : (K == 0) = true := by simp [hK0]
    clear hb1 hb1' hrise hK hK0
    go_enter Try.func14, Try.ntmps14
    go_wp2_with (first
      | (go_at_call 23; refine (rise_any _ _ _ l _ (Kd.C_below HR.out (below_alloc (below_alloc (Below.refl _ _) _) _))).mono ?_; rintro e w1 ⟨rfl, hb⟩; rw [hrise1]; have HS := Aside0.mk (H.out.start _ hb); clear hb; obtain ⟨⟨p0, p1, p2, zp0, zp1, zp2⟩, ⟨q0, q1, q2, zq0, zq1, zq2⟩⟩ := (H.out.two _ _ _ HS.out).cells; have hcx := C_at' (H.out.rd _ _ _ HS.out) K hKl)
      | (go_at_call 24; ((with_reducible refine (H.out.look _ _ _ _ _ (nth l K) HS.out rfl hmK (by omega)).mono ?_); rintro e w2 ⟨rfl, A2, c2, hs2⟩; rw [HB1.out]; clear p0 p1 p2 zp0 zp1 zp2 q0 q1 q2 zq0 zq1 zq2; clear HS; have HS := Aside0.mk hs2; clear hs2; obtain ⟨⟨p0, p1, p2, zp0, zp1, zp2⟩, ⟨q0, q1, q2, zq0, zq1, zq2⟩⟩ := (H.out.two _ _ _ HS.out).cells; clear hcx)))
    refine bodyPost_ret (v := .agg #[.int .u64 0, .bool false, .slice A2 1 c2]) (by simp [results, Try.results14, go_sem, p0, p1, p2]) rfl ?_; exact ⟨_, _, by rw [HE.out], by rw [HE.out]; exact HS.out, (((Only.refl _ _).s0 _ _).s0 _ _).s0 _ _⟩
  have hm0 : 0 ≤ nth l 0 := hl _ (nth_mem hl0)
  have hK00 : ((K : Int) == 0) = false := by simp [hK0]
  have hK01 : (K == 0) = false := by simp [hK0]
  by_cases hb2 : bad (nth l 0) = true
  · have HE : Aside0 (lastS l bad = ⟨0, false, [(nth l K, bad (nth l K)), (nth l 0, bad (nth l 0))]⟩) := ⟨by rw [lastS, if_neg hrise, ← hK, if_neg hb1, if_neg hK0, if_pos hb2, hb1', hb2]⟩
    have HB1 := Aside0.mk hb1'
    have HB2 := Aside0.mk hb2
    clear hb1 hb1' hb2 hrise hK hK0
    go_enter Try.func14, Try.ntmps14
    go_wp2_with (first
      | (go_at_call 23; refine (rise_any _ _ _ l _ (Kd.C_below HR.out (below_alloc (below_alloc (Below.refl _ _) _) _))).mono ?_; rintro e w1 ⟨rfl, hb⟩; rw [hrise1]; have HS := Aside0.mk (H.out.start _ hb); clear hb; obtain ⟨⟨p0, p1, p2, zp0, zp1, zp2⟩, ⟨q0, q1, q2, zq0, zq1, zq2⟩⟩ := (H.out.two _ _ _ HS.out).cells; have hcx := C_at' (H.out.rd _ _ _ HS.out) K hKl)
      | (go_at_call 24; first
         | ((with_reducible refine (H.out.look _ _ _ _ _ (nth l K) HS.out rfl hmK (by omega)).mono ?_); rintro e w2 ⟨rfl, A2, c2, hs2⟩; rw [HB1.out]; clear p0 p1 p2 zp0 zp1 zp2 q0 q1 q2 zq0 zq1 zq2; clear HS; have HS := Aside0.mk hs2; clear hs2; obtain ⟨⟨p0, p1, p2, zp0, zp1, zp2⟩, ⟨q0, q1, q2, zq0, zq1, zq2⟩⟩ := (H.out.two _ _ _ HS.out).cells; replace hcx := C_at0 (H.out.rd _ _ _ HS.out) hl0)
         | ((with_reducible refine (H.out.look _ _ _ _ _ (nth l 0) HS.out rfl hm0 (by omega)).mono ?_); rintro e w3 ⟨rfl, A3, c3, hs2⟩; rw [HB2.out]; clear p0 p1 p2 zp0 zp1 zp2 q0 q1 q2 zq0 zq1 zq2; clear HS; have HS := Aside0.mk hs2; clear hs2; obtain ⟨⟨p0, p1, p2, zp0, zp1, zp2⟩, ⟨q0, q1, q2, zq0, zq1, zq2⟩⟩ := (H.out.two _ _ _ HS.out).cells; clear hcx)))
    refine bodyPost_ret (v := .agg #[.int .u64 0, .bool false, .slice A3 2 c3]) (by simp [results, Try.results14, go_sem, p0, p1, p2]) rfl ?_; exact ⟨_, _, by rw [HE.out], by rw [HE.out]; exact HS.out, (((Only.refl _ _).s0 _ _).s0 _ _).s0 _ _⟩
  have hb2' : bad (nth l 0) = false := by simpa using hb2
  have HE : Aside0 (lastS l bad = ⟨nth l (halve l bad K 0 K [(nth l K, bad (nth l K)), (nth l 0, bad (nth l 0))]).1, true, (halve l bad K 0 K [(nth l K, bad (nth l K)), (nth l 0, bad (nth l 0))]).2⟩) := ⟨by rw [lastS, if_neg hrise, ← hK, if_neg hb1, if_neg hK0, if_neg hb2, hb1', hb2']⟩
  have HB1 := Aside0.mk hb1'
  have HB2 := Aside0.mk hb2'
  clear hb1 hb1' hb2 hb2' hrise hK
  go_enter Try.func14, Try.ntmps14
  go_wp2_with (first
    | (go_at_call 23; refine (rise_any _ _ _ l _ (Kd.C_below HR.out (below_alloc (below_alloc (Below.refl _ _) _) _))).mono ?_; rintro e w1 ⟨rfl, hb⟩; rw [hrise1]; have HS := Aside0.mk (H.out.start _ hb); clear hb; obtain ⟨⟨p0, p1, p2, zp0, zp1, zp2⟩, ⟨q0, q1, q2, zq0, zq1, zq2⟩⟩ := (H.out.two _ _ _ HS.out).cells; have hcx := C_at' (H.out.rd _ _ _ HS.out) K hKl)
    | (go_at_call 24; first
       | ((with_reducible refine (H.out.look _ _ _ _ _ (nth l K) HS.out rfl hmK (by omega)).mono ?_); rintro e w2 ⟨rfl, A2, c2, hs2⟩; rw [HB1.out]; clear p0 p1 p2 zp0 zp1 zp2 q0 q1 q2 zq0 zq1 zq2; clear HS; have HS := Aside0.mk hs2; clear hs2; obtain ⟨⟨p0, p1, p2, zp0, zp1, zp2⟩, ⟨q0, q1, q2, zq0, zq1, zq2⟩⟩ := (H.out.two _ _ _ HS.out).cells; replace hcx := C_at0 (H.out.rd _ _ _ HS.out) hl0)
       | ((with_reducible refine (H.out.look _ _ _ _ _ (nth l 0) HS.out rfl hm0 (by omega)).mono ?_); rintro e w3 ⟨rfl, A3, c3, hs2⟩; rw [HB2.out]; clear p0 p1 p2 zp0 zp1 zp2 q0 q1 q2 zq0 zq1 zq2; clear HS; have HS := Aside0.mk hs2; clear hs2; obtain ⟨⟨p0, p1, p2, zp0, zp1, zp2⟩, ⟨q0, q1, q2, zq0, zq1, zq2⟩⟩ := (H.out.two _ _ _ HS.out).cells; clear hcx)))
  clear p0 p1 p2 zp0 zp1 zp2 q0 q1 q2 zq0 zq1 zq2
  have hKn : K ≠ 0 := hK0
  clear hK00 hK01 hK0 HB1 HB2
  have HE2 : Aside0 (∀ r, halve l bad K 0 K [(nth l K, bad (nth l K)), (nth l 0, bad (nth l 0))] = r → lastS l bad = ⟨nth l r.1, true, r.2⟩) := ⟨fun r hr => by rw [HE.out, hr]⟩
  clear HE
  go_loopg [6, 7] K (fun gk v6 v7 w' => ∃ (i k fu : Nat) (acc : List (Int × Bool)) (Ax : Option Addr) (cx : Nat), v6 = .int .i64 (k : Int) ∧ v7 = .int .i64 (i : Int) ∧ i < k ∧ k ≤ K ∧ k - i ≤ gk ∧ k - i ≤ fu ∧ acc.length + gk ≤ K + 2 ∧
    Aside0 (T w' (.slice Ax acc.length cx) acc) ∧ Aside0 (halve l bad K 0 K [(nth l K, bad (nth l K)), (nth l 0, bad (nth l 0))] = halve l bad fu i k acc))
  case atStart => exact ⟨0, K, K, [(nth l K, bad (nth l K)), (nth l 0, bad (nth l 0))], A3, c3, rfl, rfl, by omega, by omega, by omega, by omega, by simp; omega, HS, ⟨rfl⟩⟩
  case round =>
    clear HS
    obtain ⟨i, k, fu, acc, Ax, cx, rfl, rfl, hik, hkK, hkg, hkf, hal, HS, HH⟩ := hrel
    by_cases hgo : k - i ≤ 1
    · have HE := Aside0.mk (HE2.out _ (HH.out.trans (halve_end hgo)))
      have hcx := C_at' (H.out.rd _ _ _ HS.out) i (by omega)
      have f1 : decide ((1 : Int) < (k : Int) - (i : Int)) = false := decide_eq_false (by omega)
      obtain ⟨⟨p0, p1, p2, zp0, zp1, zp2⟩, ⟨q0, q1, q2, zq0, zq1, zq2⟩⟩ := (H.out.two _ _ _ HS.out).cells
      go_wp2_with (fail)
      refine bodyPost_ret (v := .agg #[.int .u64 (nth l i), .bool true, .slice Ax acc.length cx]) (by simp [results, Try.results14, go_sem, p0, p1, p2]) rfl ?_
      exact ⟨_, by rw [HE.out], _, by rw [HE.out]; exact HS.out, (((((Only.refl _ _).s1 _ _).s1 _ _).s0 _ _).s0 _ _).s0 _ _⟩
    · have f1 : decide ((1 : Int) < (k : Int) - (i : Int)) = true := decide_eq_true (by omega)
      have hm1 : (i + k) / 2 < l.length := by omega
      have hmm : 0 ≤ nth l ((i + k) / 2) := hl _ (nth_mem hm1)
      obtain ⟨M, hM⟩ : ∃ M, M = (i + k) / 2 := ⟨_, rfl⟩
      rw [← hM] at hm1 hmm
      have e1 : ((i : Int) + (k : Int)) / 2 = (M : Int) := by omega
      have e2 : IntKind.i64.wrap ((i : Int) + (k : Int)) = (i : Int) + (k : Int) := IntWalk.i64_in _ (by omega)
      have e3 : IntKind.i64.wrap (M : Int) = (M : Int) := IntWalk.i64_in _ (by omega)
      have e4 : (0 : Int) ≤ (M : Int) ∧ (M : Int) < (l.length : Int) := by omega
      have hiM : i < M := by omega
      have hMk : M < k := by omega
      have hcx := C_at' (H.out.rd _ _ _ HS.out) M hm1
      obtain ⟨⟨p0, p1, p2, zp0, zp1, zp2⟩, ⟨q0, q1, q2, zq0, zq1, zq2⟩⟩ := (H.out.two _ _ _ HS.out).cells
      by_cases hb : bad (nth l M) = true
      · obtain ⟨g2, hg2, hH2⟩ := halve_bad hgo hkf (by rw [← hM]; exact hb)
        have HH2 := Aside0.mk (HH.out.trans (by rw [hH2, ← hM]))
        rw [← hM] at hg2
        clear hM
        have HB1 := Aside0.mk hb
        clear hH2 hb HH
        go_wp2_with (go_at_call 24; ((with_reducible refine (H.out.look _ _ _ _ _ (nth l M) HS.out rfl hmm (by omega)).mono ?_); rintro e w4 ⟨rfl, A4, c4, hs2⟩; rw [HB1.out]; clear p0 p1 p2 zp0 zp1 zp2 q0 q1 q2 zq0 zq1 zq2; clear HS; have HS := Aside0.mk hs2; clear hs2; obtain ⟨⟨p0, p1, p2, zp0, zp1, zp2⟩, ⟨q0, q1, q2, zq0, zq1, zq2⟩⟩ := (H.out.two _ _ _ HS.out).cells))
        go_roundg (gk - 1)
        case measure => omega
        case rel => exact ⟨i, M, g2, acc ++ [(nth l M, true)], A4, c4, by go_num, by go_num, hiM, by omega, by omega, by omega, by simp; omega, ⟨by have := HS.out; rw [HB1.out] at this; simpa using this⟩, HH2⟩
      · obtain ⟨g2, hg2, hH2⟩ := halve_good hgo hkf (by rw [← hM]; exact hb)
        have HH2 := Aside0.mk (HH.out.trans (by rw [hH2, ← hM]))
        rw [← hM] at hg2
        clear hM
        have HB1 := Aside0.mk (show bad (nth l M) = false by simpa using hb)
        clear hH2 hb HH
        go_wp2_with (go_at_call 24; ((with_reducible refine (H.out.look _ _ _ _ _ (nth l M) HS.out rfl hmm (by omega)).mono ?_); rintro e w4 ⟨rfl, A4, c4, hs2⟩; rw [HB1.out]; clear p0 p1 p2 zp0 zp1 zp2 q0 q1 q2 zq0 zq1 zq2; clear HS; have HS := Aside0.mk hs2; clear hs2; obtain ⟨⟨p0, p1, p2, zp0, zp1, zp2⟩, ⟨q0, q1, q2, zq0, zq1, zq2⟩⟩ := (H.out.two _ _ _ HS.out).cells))
        go_roundg (gk - 1)
        case measure => omega
        case rel => exact ⟨M, k, g2, acc ++ [(nth l M, false)], A4, c4, by go_num, by go_num, hMk, by omega, by omega, by omega, by simp; omega, ⟨by have := HS.out; rw [HB1.out] at this; simpa using this⟩, HH2⟩

set_option maxHeartbeats 1600000 in
set_option maxRecDepth 100000 in
theorem each_any (A : Option Addr) (n c : Nat) (l : List Int) (w : World) (fv : Value) (bad : Int → Bool) (T : World → Value → List (Int × Bool) → Prop)
    (hr : RdM w A n l) (hl : ∀ x ∈ l, 0 ≤ x) (hn : n ≤ 100000) (hT : Asks A n l w fv bad T) :
    Calls Try.prog 19 #[.slice A n c, fv] w fun e w' =>
      ∃ v W, e = .returned (.agg #[.int .u64 (eachS l bad).m, .bool (eachS l bad).ok, v]) ∧ T W v (eachS l bad).l ∧ Only w.heap.size W w' := by
  obtain rfl := C_len hr
  have HR := Aside0.mk hr
  have H := Aside0.mk hT
  clear hr hT
  by_cases hrise : riseB l = false
  · have HE : Aside0 (eachS l bad = ⟨0, false, []⟩) := ⟨by rw [eachS, if_pos hrise]⟩
    go_enter Try.func19, Try.ntmps19
    go_wp2_with (go_at_call 23; refine (rise_any _ _ _ l _ (Kd.C_below HR.out (below_alloc (below_alloc (Below.refl _ _) _) _))).mono ?_; rintro e w1 ⟨rfl, hb⟩; rw [hrise]; have HS := Aside0.mk (H.out.start _ hb); clear hb; obtain ⟨⟨p0, p1, p2, zp0, zp1, zp2⟩, ⟨q0, q1, q2, zq0, zq1, zq2⟩⟩ := (H.out.two _ _ _ HS.out).cells)
    refine bodyPost_ret (v := .agg #[.int .u64 0, .bool false, .slice none 0 0]) (by simp [results, Try.results19, go_sem, p0, p1, p2]) rfl ?_; exact ⟨_, _, by rw [HE.out], by rw [HE.out]; exact HS.out, (((Only.refl _ _).s0 _ _).s0 _ _).s0 _ _⟩
  have hrise1 : riseB l = true := by simpa using hrise
  obtain ⟨hl0, _⟩ := riseB_spec hrise1
  obtain ⟨ad, rfl, _⟩ := C_at HR.out 0 hl0
  have HN := Aside0.mk hrise
  clear hrise
  go_enter Try.func19, Try.ntmps19
  go_wp2_with (go_at_call 23; refine (rise_any _ _ _ l _ (Kd.C_below HR.out (below_alloc (below_alloc (Below.refl _ _) _) _))).mono ?_; rintro e w1 ⟨rfl, hb⟩; rw [hrise1]; have HS := Aside0.mk (H.out.start _ hb); clear hb; obtain ⟨⟨p0, p1, p2, zp0, zp1, zp2⟩, ⟨q0, q1, q2, zq0, zq1, zq2⟩⟩ := (H.out.two _ _ _ HS.out).cells)
  clear p0 p1 p2 zp0 zp1 zp2 q0 q1 q2 zq0 zq1 zq2
  go_loopg [6, 17] l.length (fun gk v6 v17 w' => ∃ (i f : Nat) (Ax : Option Addr) (cx : Nat), v6 = .int .i64 (f : Int) ∧ v17 = .int .i64 (i : Int) ∧ i + gk = l.length ∧ f ≤ l.length ∧ Aside0 (fstB l bad i = f) ∧ Aside0 (T w' (.slice Ax i cx) (lkB l bad i)))
  case atStart => exact ⟨0, l.length, none, 0, rfl, rfl, by omega, by omega, ⟨rfl⟩, HS⟩
  case round =>
    clear HS
    obtain ⟨i, f, Ax, cx, rfl, rfl, hig, hfl, HF, HS⟩ := hrel
    obtain ⟨⟨p0, p1, p2, zp0, zp1, zp2⟩, ⟨q0, q1, q2, zq0, zq1, zq2⟩⟩ := (H.out.two _ _ _ HS.out).cells
    by_cases hgo : i < l.length
    · have hcx := C_at' (H.out.rd _ _ _ HS.out) i hgo
      have hmm : 0 ≤ nth l i := hl _ (nth_mem hgo)
      by_cases hb : bad (nth l i) = true
      · by_cases hf : f = l.length
        · have f1 : ((f : Int) == (l.length : Int)) = true := by simp [hf]
          have f2 : (f == l.length) = true := by simp [hf]
          have HF2 : Aside0 (fstB l bad (i + 1) = i) := ⟨by rw [fstB, if_pos ⟨hb, HF.out.trans hf⟩]⟩
          have HB1 := Aside0.mk hb
          clear hb hf
          go_wp2_with (go_at_call 24; ((with_reducible refine (H.out.look _ _ _ _ _ (nth l i) HS.out (lkB_length _ _ _) hmm (by omega)).mono ?_); rintro e w4 ⟨rfl, A4, c4, hs2⟩; rw [HB1.out]; clear p0 p1 p2 zp0 zp1 zp2 q0 q1 q2 zq0 zq1 zq2; clear HS; have HS := Aside0.mk hs2; clear hs2; obtain ⟨⟨p0, p1, p2, zp0, zp1, zp2⟩, ⟨q0, q1, q2, zq0, zq1, zq2⟩⟩ := (H.out.two _ _ _ HS.out).cells))
          go_roundg (gk - 1)
          case measure => omega
          case rel => exact ⟨i + 1, i, A4, c4, by go_num, by go_num, by omega, by omega, HF2, HS⟩
        · have f1 : ((f : Int) == (l.length : Int)) = false := by simp [hf]; omega
          have f2 : (f == l.length) = false := by simp [hf]
          have HF2 : Aside0 (fstB l bad (i + 1) = f) := ⟨by rw [fstB, if_neg (fun hh => hf (HF.out.symm.trans hh.2)), HF.out]⟩
          have HB1 := Aside0.mk hb
          clear hb hf
          go_wp2_with (go_at_call 24; ((with_reducible refine (H.out.look _ _ _ _ _ (nth l i) HS.out (lkB_length _ _ _) hmm (by omega)).mono ?_); rintro e w4 ⟨rfl, A4, c4, hs2⟩; rw [HB1.out]; clear p0 p1 p2 zp0 zp1 zp2 q0 q1 q2 zq0 zq1 zq2; clear HS; have HS := Aside0.mk hs2; clear hs2; obtain ⟨⟨p0, p1, p2, zp0, zp1, zp2⟩, ⟨q0, q1, q2, zq0, zq1, zq2⟩⟩ := (H.out.two _ _ _ HS.out).cells))
          go_roundg (gk - 1)
          case measure => omega
          case rel => exact ⟨i + 1, f, A4, c4, by go_num, by go_num, by omega, by omega, HF2, HS⟩
      · have HF2 : Aside0 (fstB l bad (i + 1) = f) := ⟨by rw [fstB, if_neg (fun hh => hb hh.1), HF.out]⟩
        have HB1 := Aside0.mk (show bad (nth l i) = false by simpa using hb)
        clear hb
        go_wp2_with (go_at_call 24; ((with_reducible refine (H.out.look _ _ _ _ _ (nth l i) HS.out (lkB_length _ _ _) hmm (by omega)).mono ?_); rintro e w4 ⟨rfl, A4, c4, hs2⟩; rw [HB1.out]; clear p0 p1 p2 zp0 zp1 zp2 q0 q1 q2 zq0 zq1 zq2; clear HS; have HS := Aside0.mk hs2; clear hs2; obtain ⟨⟨p0, p1, p2, zp0, zp1, zp2⟩, ⟨q0, q1, q2, zq0, zq1, zq2⟩⟩ := (H.out.two _ _ _ HS.out).cells))
        go_roundg (gk - 1)
        case measure => omega
        case rel => exact ⟨i + 1, f, A4, c4, by go_num, by go_num, by omega, by omega, HF2, HS⟩
    · obtain rfl : i = l.length := by omega
      by_cases hf : f = 0
      · subst hf
        have HE : Aside0 (eachS l bad = ⟨0, false, lkB l bad l.length⟩) := ⟨by rw [eachS, if_neg HN.out, if_pos HF.out]⟩
        go_wp2
        refine bodyPost_ret (v := .agg #[.int .u64 0, .bool false, .slice Ax l.length cx]) (by simp [results, Try.results19, go_sem, p0, p1, p2]) rfl ?_
        exact ⟨.slice Ax l.length cx, wr, by rw [HE.out], by rw [HE.out]; exact HS.out, (((Only.refl _ _).s0 _ _).s0 _ _).s0 _ _⟩
      · have HE : Aside0 (eachS l bad = ⟨nth l (f - 1), true, lkB l bad l.length⟩) := ⟨by rw [eachS, if_neg HN.out, if_neg (by rw [HF.out]; exact hf), HF.out]⟩
        obtain ⟨j, rfl⟩ : ∃ j, f = j + 1 := ⟨f - 1, by omega⟩
        rw [Nat.add_sub_cancel] at HE
        have hcx := C_at' (H.out.rd _ _ _ HS.out) j (by omega)
        have e2 : IntKind.i64.wrap (j : Int) = (j : Int) := IntWalk.i64_in _ (by omega)
        have e3 : decide ((0 : Int) < (j : Int) + 1) = true := decide_eq_true (by omega)
        go_wp2
        refine bodyPost_ret (v := .agg #[.int .u64 (nth l j), .bool true, .slice Ax l.length cx]) (by simp [results, Try.results19, go_sem, p0, p1, p2]) rfl ?_
        exact ⟨.slice Ax l.length cx, wr, by rw [HE.out], by rw [HE.out]; exact HS.out, (((((Only.refl _ _).s1 _ _).s1 _ _).s0 _ _).s0 _ _).s0 _ _⟩
end Go.Proofs.Yteikmlgcmhgaoaa.Search
