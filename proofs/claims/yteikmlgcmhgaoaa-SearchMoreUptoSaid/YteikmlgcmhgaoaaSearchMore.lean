/- Moments behind a bad one play no part; some left out change nothing but which are left. -/
import Derived.Test.YteikmlgcmhgaoaaSearchUse
import Derived.Test.YteikmlgcmhgaoaaSearchMorePlain
import Derived.Test.YteikmlgcmhgaoaaU64
import Derived.IntWalk
import Derived.Outline
import Derived.Deep.DeepMust
namespace Go.Proofs.Yteikmlgcmhgaoaa.Search
open Go.RowKit Go.Proofs.YteikmlgcmhgaoaaW.PrintWords Go.Proofs.YteikmlgcmhgaoaaW.PrintLast Go.Proofs.YteikmlgcmhgaoaaW.PrintMore Go.Proofs.Yteikmlgcmhgaoaa.Kit Go.Proofs.Yteikmlgcmhgaoaa.Plain
set_option linter.unusedVariables false
set_option linter.unusedSimpArgs false
set_option maxHeartbeats 3200000 in
set_option maxRecDepth 100000 in
theorem smore_any (A : Option Addr) (n c : Nat) (l : List Int) (B : Option Addr) (n2 d : Nat) (m : List Int) (tb : Int) (w : World) (hr : RdM w A n l) (hm : RdM w B n2 m) (hml : n ≤ 1000000000 ∧ n2 ≤ 1000000000) (hl : ∀ x ∈ l, 0 ≤ x) (hl2 : ∀ x ∈ m, 0 ≤ x) :
    Calls Try.prog 9 #[.slice A n c, .slice B n2 d, .int .u64 tb] w fun e w' => e = .returned (.bool true) ∧ Below w.heap.size w w' := by
  obtain rfl := C_len hr
  obtain rfl := C_len hm
  obtain ⟨hml1, hml2⟩ := hml
  have HB := Aside0.mk (Below.refl w.heap.size w)
  have HR := Aside0.mk hr
  have HM := Aside0.mk hm
  clear hr hm
  by_cases hn : l.length ≤ 100
  case neg =>
    have f1 : decide ((100 : Int) < (l.length : Int)) = true := decide_eq_true (by omega)
    go_enter Try.func9, Try.ntmps9
    go_wp2_with (first
        | (go_at_call 11; go_must (refine (awake_any _).mono ?_; rintro e w1 ⟨rfl, hb⟩; replace HB := Aside0.mk (HB.out.trans (hb.mono HB.out.size)); clear hb))
        | ((with_reducible refine gate_dst (N := 18) rfl ?_); go_must (refine litU w.heap.size rfl (N := 18) rfl [] ?hr HB.out HB.out.size (by simp) ?_; (case hr => first | (go_simp; done) | (go_simp; rfl)); intro v2 w2 ho hb0 _ hb; clear HB; have HB := Aside0.mk hb0; have HO := Aside0.mk ho; clear ho hb hb0))
        | ((with_reducible refine gate_dst (N := 20) rfl ?_); go_must (refine appU w.heap.size rfl (.tmp 18) (.tmp 19) rfl rfl v2 [] l A l.length c rfl rfl HO.out (Kd.C_below HR.out HB.out) HB.out HB.out.size (by simp <;> omega) ?_; intro v3 w3 ho hb hg hat; clear HB HO; have HB := Aside0.mk hb; have HO := Aside0.mk ho; clear ho hb hg hat))
        | ((with_reducible refine gate_dst (N := 22) rfl ?_); go_must (refine appU w.heap.size rfl (.tmp 20) (.tmp 21) rfl rfl v3 ([] ++ l) m B m.length d rfl rfl HO.out (Kd.C_below HM.out HB.out) HB.out HB.out.size (by simp <;> omega) ?_; intro v4 w4 ho hb hg hat; clear HB HO; rw [List.nil_append] at ho; have HB := Aside0.mk hb; obtain ⟨A4, c4, rfl, _, hA⟩ := OwU_slice ho; obtain ⟨N, hN⟩ : ∃ N, N = (l ++ m).length := ⟨_, rfl⟩; rw [← hN] at hA ⊢; have HA := Aside0.mk hA; have HN := Aside0.mk hN; clear ho hb hg hat hA hN))
        | (go_at_call 16; go_must (refine (refrise_any _ _ _ (l ++ m) _ HA.out).mono ?_; rintro e w5 ⟨rfl, hb⟩; rw [f1]; replace HA := Aside0.mk (Kd.C_below HA.out hb); replace HB := Aside0.mk (HB.out.trans (hb.mono HB.out.size)); clear hb)))
    go_ret
    exact ⟨rfl, HB.out⟩
  have f1 : decide ((100 : Int) < (l.length : Int)) = false := decide_eq_false (by omega)
  by_cases hn2 : m.length ≤ 100
  case neg =>
    have f2 : decide ((100 : Int) < (m.length : Int)) = true := decide_eq_true (by omega)
    go_enter Try.func9, Try.ntmps9
    go_wp2_with (first
        | (go_at_call 11; go_must (refine (awake_any _).mono ?_; rintro e w1 ⟨rfl, hb⟩; replace HB := Aside0.mk (HB.out.trans (hb.mono HB.out.size)); clear hb))
        | ((with_reducible refine gate_dst (N := 18) rfl ?_); go_must (refine litU w.heap.size rfl (N := 18) rfl [] ?hr HB.out HB.out.size (by simp) ?_; (case hr => first | (go_simp; done) | (go_simp; rfl)); intro v2 w2 ho hb0 _ hb; clear HB; have HB := Aside0.mk hb0; have HO := Aside0.mk ho; clear ho hb hb0))
        | ((with_reducible refine gate_dst (N := 20) rfl ?_); go_must (refine appU w.heap.size rfl (.tmp 18) (.tmp 19) rfl rfl v2 [] l A l.length c rfl rfl HO.out (Kd.C_below HR.out HB.out) HB.out HB.out.size (by simp <;> omega) ?_; intro v3 w3 ho hb hg hat; clear HB HO; have HB := Aside0.mk hb; have HO := Aside0.mk ho; clear ho hb hg hat))
        | ((with_reducible refine gate_dst (N := 22) rfl ?_); go_must (refine appU w.heap.size rfl (.tmp 20) (.tmp 21) rfl rfl v3 ([] ++ l) m B m.length d rfl rfl HO.out (Kd.C_below HM.out HB.out) HB.out HB.out.size (by simp <;> omega) ?_; intro v4 w4 ho hb hg hat; clear HB HO; rw [List.nil_append] at ho; have HB := Aside0.mk hb; obtain ⟨A4, c4, rfl, _, hA⟩ := OwU_slice ho; obtain ⟨N, hN⟩ : ∃ N, N = (l ++ m).length := ⟨_, rfl⟩; rw [← hN] at hA ⊢; have HA := Aside0.mk hA; have HN := Aside0.mk hN; clear ho hb hg hat hA hN))
        | (go_at_call 16; go_must (refine (refrise_any _ _ _ (l ++ m) _ HA.out).mono ?_; rintro e w5 ⟨rfl, hb⟩; rw [f1]; replace HA := Aside0.mk (Kd.C_below HA.out hb); replace HB := Aside0.mk (HB.out.trans (hb.mono HB.out.size)); clear hb)))
    go_ret
    exact ⟨rfl, HB.out⟩
  have f2 : decide ((100 : Int) < (m.length : Int)) = false := decide_eq_false (by omega)
  by_cases hrise : riseB (l ++ m) = false
  · go_enter Try.func9, Try.ntmps9
    go_wp2_with (first
        | (go_at_call 11; go_must (refine (awake_any _).mono ?_; rintro e w1 ⟨rfl, hb⟩; replace HB := Aside0.mk (HB.out.trans (hb.mono HB.out.size)); clear hb))
        | ((with_reducible refine gate_dst (N := 18) rfl ?_); go_must (refine litU w.heap.size rfl (N := 18) rfl [] ?hr HB.out HB.out.size (by simp) ?_; (case hr => first | (go_simp; done) | (go_simp; rfl)); intro v2 w2 ho hb0 _ hb; clear HB; have HB := Aside0.mk hb0; have HO := Aside0.mk ho; clear ho hb hb0))
        | ((with_reducible refine gate_dst (N := 20) rfl ?_); go_must (refine appU w.heap.size rfl (.tmp 18) (.tmp 19) rfl rfl v2 [] l A l.length c rfl rfl HO.out (Kd.C_below HR.out HB.out) HB.out HB.out.size (by simp <;> omega) ?_; intro v3 w3 ho hb hg hat; clear HB HO; have HB := Aside0.mk hb; have HO := Aside0.mk ho; clear ho hb hg hat))
        | ((with_reducible refine gate_dst (N := 22) rfl ?_); go_must (refine appU w.heap.size rfl (.tmp 20) (.tmp 21) rfl rfl v3 ([] ++ l) m B m.length d rfl rfl HO.out (Kd.C_below HM.out HB.out) HB.out HB.out.size (by simp <;> omega) ?_; intro v4 w4 ho hb hg hat; clear HB HO; rw [List.nil_append] at ho; have HB := Aside0.mk hb; obtain ⟨A4, c4, rfl, _, hA⟩ := OwU_slice ho; obtain ⟨N, hN⟩ : ∃ N, N = (l ++ m).length := ⟨_, rfl⟩; rw [← hN] at hA ⊢; have HA := Aside0.mk hA; have HN := Aside0.mk hN; clear ho hb hg hat hA hN))
        | (go_at_call 16; go_must (refine (refrise_any _ _ _ (l ++ m) _ HA.out).mono ?_; rintro e w5 ⟨rfl, hb⟩; rw [hrise]; replace HA := Aside0.mk (Kd.C_below HA.out hb); replace HB := Aside0.mk (HB.out.trans (hb.mono HB.out.size)); clear hb)))
    go_ret
    exact ⟨rfl, HB.out⟩
  have hrise1 : riseB (l ++ m) = true := by simpa using hrise
  by_cases h0 : l.length = 0
  · obtain rfl := List.length_eq_zero_iff.1 h0
    clear h0
    go_enter Try.func9, Try.ntmps9
    go_wp2_with (first
        | (go_at_call 11; go_must (refine (awake_any _).mono ?_; rintro e w1 ⟨rfl, hb⟩; replace HB := Aside0.mk (HB.out.trans (hb.mono HB.out.size)); clear hb))
        | ((with_reducible refine gate_dst (N := 18) rfl ?_); go_must (refine litU w.heap.size rfl (N := 18) rfl [] ?hr HB.out HB.out.size (by simp) ?_; (case hr => first | (go_simp; done) | (go_simp; rfl)); intro v2 w2 ho hb0 _ hb; clear HB; have HB := Aside0.mk hb0; have HO := Aside0.mk ho; clear ho hb hb0))
        | ((with_reducible refine gate_dst (N := 20) rfl ?_); go_must (refine appU w.heap.size rfl (.tmp 18) (.tmp 19) rfl rfl v2 [] [] A 0 c rfl rfl HO.out (Kd.C_below HR.out HB.out) HB.out HB.out.size (by simp <;> omega) ?_; intro v3 w3 ho hb hg hat; clear HB HO; have HB := Aside0.mk hb; have HO := Aside0.mk ho; clear ho hb hg hat))
        | ((with_reducible refine gate_dst (N := 22) rfl ?_); go_must (refine appU w.heap.size rfl (.tmp 20) (.tmp 21) rfl rfl v3 ([] ++ []) m B m.length d rfl rfl HO.out (Kd.C_below HM.out HB.out) HB.out HB.out.size (by simp <;> omega) ?_; intro v4 w4 ho hb hg hat; clear HB HO; rw [List.nil_append] at ho; have HB := Aside0.mk hb; obtain ⟨A4, c4, rfl, _, hA⟩ := OwU_slice ho; obtain ⟨N, hN⟩ : ∃ N, N = ([] ++ m).length := ⟨_, rfl⟩; rw [← hN] at hA ⊢; have HA := Aside0.mk hA; have HN := Aside0.mk hN; clear ho hb hg hat hA hN))
        | (go_at_call 16; go_must (refine (refrise_any _ _ _ ([] ++ m) _ HA.out).mono ?_; rintro e w5 ⟨rfl, hb⟩; rw [hrise1]; replace HA := Aside0.mk (Kd.C_below HA.out hb); replace HB := Aside0.mk (HB.out.trans (hb.mono HB.out.size)); clear hb)))
    go_ret
    exact ⟨rfl, HB.out⟩
  have f3 : ((l.length : Int) == 0) = false := by simp [h0]; first | done | omega
  have f4 : (l.length == 0) = false := by simp [h0]
  have hl0 : 0 < l.length := by omega
  obtain ⟨K, hK⟩ : ∃ K, K = l.length - 1 := ⟨_, rfl⟩
  have hKl : K < l.length := by omega
  have eK : (l.length : Int) - 1 = (K : Int) := by omega
  obtain ⟨ad, rfl, _⟩ := C_at HR.out K hKl
  by_cases hb : nth l K < tb
  · have f5 : decide (nth l K < tb) = true := decide_eq_true hb
    clear hK h0 hb hrise
    go_enter Try.func9, Try.ntmps9
    go_wp2_with (first
        | (go_at_call 11; go_must (refine (awake_any _).mono ?_; rintro e w1 ⟨rfl, hb⟩; replace HB := Aside0.mk (HB.out.trans (hb.mono HB.out.size)); clear hb))
        | ((with_reducible refine gate_dst (N := 18) rfl ?_); go_must (refine litU w.heap.size rfl (N := 18) rfl [] ?hr HB.out HB.out.size (by simp) ?_; (case hr => first | (go_simp; done) | (go_simp; rfl)); intro v2 w2 ho hb0 _ hb; clear HB; have HB := Aside0.mk hb0; have HO := Aside0.mk ho; clear ho hb hb0))
        | ((with_reducible refine gate_dst (N := 20) rfl ?_); go_must (refine appU w.heap.size rfl (.tmp 18) (.tmp 19) rfl rfl v2 [] l (some ad) l.length c rfl rfl HO.out (Kd.C_below HR.out HB.out) HB.out HB.out.size (by simp <;> omega) ?_; intro v3 w3 ho hb hg hat; clear HB HO; have HB := Aside0.mk hb; have HO := Aside0.mk ho; clear ho hb hg hat))
        | ((with_reducible refine gate_dst (N := 22) rfl ?_); go_must (refine appU w.heap.size rfl (.tmp 20) (.tmp 21) rfl rfl v3 ([] ++ l) m B m.length d rfl rfl HO.out (Kd.C_below HM.out HB.out) HB.out HB.out.size (by simp <;> omega) ?_; intro v4 w4 ho hb hg hat; clear HB HO; rw [List.nil_append] at ho; have HB := Aside0.mk hb; obtain ⟨A4, c4, rfl, _, hA⟩ := OwU_slice ho; obtain ⟨N, hN⟩ : ∃ N, N = (l ++ m).length := ⟨_, rfl⟩; rw [← hN] at hA ⊢; have HA := Aside0.mk hA; have HN := Aside0.mk hN; clear ho hb hg hat hA hN))
        | (go_at_call 16; go_must (refine (refrise_any _ _ _ (l ++ m) _ HA.out).mono ?_; rintro e w5 ⟨rfl, hb⟩; rw [hrise1]; replace HA := Aside0.mk (Kd.C_below HA.out hb); replace HB := Aside0.mk (HB.out.trans (hb.mono HB.out.size)); clear hb; have hcx := C_atx (Kd.C_below HR.out HB.out) K hKl)))
    go_ret
    exact ⟨rfl, HB.out⟩
  have f5 : decide (nth l K < tb) = false := decide_eq_false hb
  have hriseL : riseB l = true := rise_left hrise1 hl0
  have hlm : ∀ x ∈ l ++ m, 0 ≤ x := fun x hx => (List.mem_append.1 hx).elim (hl x) (hl2 x)
  obtain ⟨F1, F2⟩ := stays_last hriseL tb
  obtain ⟨G1, G2⟩ := stays_last hrise1 tb
  rw [want_all hrise1 hl0 tb (by rw [← hK]; omega)] at G1 G2
  obtain ⟨x, hx⟩ : ∃ x, x = (wantS l tb l.length).1 := ⟨_, rfl⟩
  obtain ⟨o, ho⟩ : ∃ o, o = (wantS l tb l.length).2 := ⟨_, rfl⟩
  rw [← hx] at F1 G1
  rw [← ho] at F2 G2
  have HF := Aside0.mk (And.intro (And.intro F1 F2) (And.intro G1 G2))
  have HX := Aside0.mk (And.intro hx ho)
  have HKK := Aside0.mk hK
  clear F1 F2 G1 G2 hx ho hK h0 hb hrise
  have hn5 : l.length ≤ 100000 := by omega
  have hn6 : (l ++ m).length ≤ 100000 := by rw [List.length_append]; omega
  go_enter Try.func9, Try.ntmps9
  go_wp2_with (first
        | (go_at_call 11; go_must (refine (awake_any _).mono ?_; rintro e w1 ⟨rfl, hb⟩; replace HB := Aside0.mk (HB.out.trans (hb.mono HB.out.size)); clear hb))
        | ((with_reducible refine gate_dst (N := 18) rfl ?_); go_must (refine litU w.heap.size rfl (N := 18) rfl [] ?hr HB.out HB.out.size (by simp) ?_; (case hr => first | (go_simp; done) | (go_simp; rfl)); intro v2 w2 ho hb0 _ hb; clear HB; have HB := Aside0.mk hb0; have HO := Aside0.mk ho; clear ho hb hb0))
        | ((with_reducible refine gate_dst (N := 20) rfl ?_); go_must (refine appU w.heap.size rfl (.tmp 18) (.tmp 19) rfl rfl v2 [] l (some ad) l.length c rfl rfl HO.out (Kd.C_below HR.out HB.out) HB.out HB.out.size (by simp <;> omega) ?_; intro v3 w3 ho hb hg hat; clear HB HO; have HB := Aside0.mk hb; have HO := Aside0.mk ho; clear ho hb hg hat))
        | ((with_reducible refine gate_dst (N := 22) rfl ?_); go_must (refine appU w.heap.size rfl (.tmp 20) (.tmp 21) rfl rfl v3 ([] ++ l) m B m.length d rfl rfl HO.out (Kd.C_below HM.out HB.out) HB.out HB.out.size (by simp <;> omega) ?_; intro v4 w4 ho hb hg hat; clear HB HO; rw [List.nil_append] at ho; have HB := Aside0.mk hb; obtain ⟨A4, c4, rfl, _, hA⟩ := OwU_slice ho; obtain ⟨N, hN⟩ : ∃ N, N = (l ++ m).length := ⟨_, rfl⟩; rw [← hN] at hA ⊢; have HA := Aside0.mk hA; have HN := Aside0.mk hN; clear ho hb hg hat hA hN))
        | (go_at_call 16; go_must (refine (refrise_any _ _ _ (l ++ m) _ HA.out).mono ?_; rintro e w5 ⟨rfl, hb⟩; rw [hrise1]; replace HA := Aside0.mk (Kd.C_below HA.out hb); replace HB := Aside0.mk (HB.out.trans (hb.mono HB.out.size)); clear hb; have hcx := C_atx (Kd.C_below HR.out HB.out) K hKl))
        | (go_at_call 20; go_must (refine (from_any tb _).mono ?_; rintro e w6 ⟨g, rfl, hc, _, hb⟩; have HC := Aside0.mk hc; replace HA := Aside0.mk (Kd.C_below HA.out hb); replace HB := Aside0.mk (HB.out.trans (hb.mono HB.out.size)); clear hb hc))
        | (go_at_call 14; first
          | ((with_reducible refine (last_st _ (Kd.C_below HR.out HB.out) hl hn5 (asks_from (Kd.C_below HR.out HB.out) HC.out)).mono ?_); rintro e w7 ⟨A7, c7, rfl, _, hb⟩; rw [HF.out.1.1, HF.out.1.2]; replace HA := Aside0.mk (Kd.C_below HA.out hb); replace HB := Aside0.mk (HB.out.trans (hb.mono HB.out.size)); clear hb)
          | go_must (refine (last_st _ HA.out hlm (by rw [HN.out]; exact hn6) (asks_from HA.out HC.out)).mono ?_; rintro e w8 ⟨A8, c8, rfl, _, hb⟩; rw [HF.out.2.1, HF.out.2.2]; replace HB := Aside0.mk (HB.out.trans (hb.mono HB.out.size)); clear hb)))
  obtain ⟨W6, hW6⟩ : ∃ W6, W6 = (w8.alloc (Obj.cells #[.int .u64 x, .bool o, .slice A7 (lastS l (badF tb)).l.length c7] 31)).alloc (Obj.cells #[.int .u64 x, .bool o, .slice A8 (lastS (l ++ m) (badF tb)).l.length c8] 31) := ⟨_, rfl⟩
  rw [← hW6]
  obtain ⟨k5, k6, hb6⟩ := two_new (w := w8) (o1 := (Obj.cells #[.int .u64 x, .bool o, .slice A7 (lastS l (badF tb)).l.length c7] 31)) (o2 := (Obj.cells #[.int .u64 x, .bool o, .slice A8 (lastS (l ++ m) (badF tb)).l.length c8] 31)) (Below.refl _ _)
  rw [← hW6] at k5 k6 hb6
  replace HB := Aside0.mk (HB.out.trans (hb6.mono HB.out.size))
  have HR6 := Aside0.mk (Kd.C_below HR.out HB.out)
  have HP := Aside0.mk k5
  clear k5 k6 hb6 hW6 HA HM hcx
  go_loopg [10, 11] l.length (fun gk v10 v11 w' => ∃ (i : Nat) (Ax : Option Addr) (cx : Nat), v10 = .slice Ax (fewS l i).length cx ∧ v11 = .int .i64 (i : Int) ∧ i + gk = l.length ∧
    Aside0 (OwU w' W6.heap.size (.slice Ax (fewS l i).length cx) (fewS l i)) ∧ Aside0 (Below W6.heap.size W6 w'))
  case atStart => exact ⟨0, none, 0, rfl, rfl, by omega, ⟨Kd.R_nil _ _ _ _ _⟩, ⟨Below.refl _ _⟩⟩
  case round =>
    obtain ⟨i, Ax, cx, rfl, rfl, hig, HO, HW⟩ := hrel
    by_cases hgo : i < l.length
    · have hcx := C_atx (Kd.C_below HR6.out HW.out) i hgo
      by_cases he : i % 2 = 0
      · have e1 : ((i : Int) % 2 == 0) = true := by simp; omega
        have e2 : (i % 2 == 0) = true := by simp; omega
        have HE := Aside0.mk he
        clear he
        · have HF2 : Aside0 (fewS l (i + 1) = fewS l i ++ [nth l i]) := ⟨by rw [fewS, if_pos (.inl HE.out)]⟩
          go_wp2_with ((with_reducible refine gate_builtin (b := .append) (xs := #[.tmp 87, .tmp 92]) rfl ?_); at_builtin; go_must (refine Kd.R_append (Kd.int .u64) (w0 := W6) W6.heap.size rfl (.tmp 87) (.tmp 92) 22 23 (.int .u64 0) 8 rfl Try.underlying22 infoU64 rfl (by decide) (by omega) (.slice Ax (fewS l i).length cx) (fewS l i) (nth l i) [.int .u64 (nth l i)] (fun _ => True) (fun _ => False) rfl rfl ?hp ?hokp (fun _ _ => trivial) HO.out HW.out HW.out.size (by have := fewS_len l i; omega) ?_; (case hp => rfl); (case hokp => exact fun k hk => hk.elim); intro v1 w1 ho hb hgr hat; obtain ⟨A1, c1, rfl⟩ := Kd.R_slice ho; rw [← HF2.out] at ho ⊢; have HO1 := Aside0.mk ho; clear HW; have HW := Aside0.mk hb; clear ho hb hgr hat))
          go_roundg (gk - 1)
          case measure => omega
          case rel => exact ⟨i + 1, A1, c1, rfl, by go_num, by omega, HO1, HW⟩

      · have e1 : ((i : Int) % 2 == 0) = false := by simp; omega
        have e2 : (i % 2 == 0) = false := by simp; omega
        have HE := Aside0.mk he
        clear he
        by_cases hk : i = K
        · subst hk
          have HF2 : Aside0 (fewS l (i + 1) = fewS l i ++ [nth l i]) := ⟨by rw [fewS, if_pos (.inr HKK.out)]⟩
          go_wp2_with ((with_reducible refine gate_builtin (b := .append) (xs := #[.tmp 87, .tmp 92]) rfl ?_); at_builtin; go_must (refine Kd.R_append (Kd.int .u64) (w0 := W6) W6.heap.size rfl (.tmp 87) (.tmp 92) 22 23 (.int .u64 0) 8 rfl Try.underlying22 infoU64 rfl (by decide) (by omega) (.slice Ax (fewS l i).length cx) (fewS l i) (nth l i) [.int .u64 (nth l i)] (fun _ => True) (fun _ => False) rfl rfl ?hp ?hokp (fun _ _ => trivial) HO.out HW.out HW.out.size (by have := fewS_len l i; omega) ?_; (case hp => rfl); (case hokp => exact fun k hk => hk.elim); intro v1 w1 ho hb hgr hat; obtain ⟨A1, c1, rfl⟩ := Kd.R_slice ho; rw [← HF2.out] at ho ⊢; have HO1 := Aside0.mk ho; clear HW; have HW := Aside0.mk hb; clear ho hb hgr hat))
          go_roundg (gk - 1)
          case measure => omega
          case rel => exact ⟨i + 1, A1, c1, rfl, by go_num, by omega, HO1, HW⟩

        · have e4 : ((i : Int) == (K : Int)) = false := by simp; omega
          have e5 : (i == K) = false := by simp; omega
          have HF2 : Aside0 (fewS l (i + 1) = fewS l i) := ⟨by rw [fewS, if_neg (by intro h; rcases h with h | h; exact HE.out h; exact hk (by rw [HKK.out]; exact h))]⟩
          have HK2 := Aside0.mk hk
          clear hk
          go_wp2
          go_roundg (gk - 1)
          case measure => omega
          case rel => exact ⟨i + 1, Ax, cx, by rw [HF2.out], by go_num, by omega, ⟨by rw [HF2.out]; exact HO.out⟩, HW⟩
    · obtain rfl : i = l.length := by omega
      obtain ⟨few, hfew⟩ : ∃ few, few = fewS l l.length := ⟨_, rfl⟩
      have hfl := fewS_len l l.length
      have hfp : ∀ y ∈ few, 0 ≤ y := fun y hy => by
        rw [hfew] at hy
        obtain ⟨j, hj, he⟩ := fewS_mem l _ y hy
        rw [← he]; exact hl _ (nth_mem hj)
      obtain ⟨F1, F2⟩ := stays_each (few_rise hriseL) tb
      have hle := few_le hriseL tb
      rw [← hfew] at HO F1 F2 hle hfl ⊢
      obtain ⟨y, hy⟩ : ∃ y, y = (wantS few tb few.length).1 := ⟨_, rfl⟩
      obtain ⟨p, hp⟩ : ∃ p, p = (wantS few tb few.length).2 := ⟨_, rfl⟩
      rw [← hy, ← hp] at hle
      rw [← hy] at F1
      rw [← hp] at F2
      rw [← HX.out.1, ← HX.out.2] at hle
      have HG := Aside0.mk (And.intro F1 F2)
      have HY := Aside0.mk (And.intro hy hp)
      have HL := Aside0.mk hle
      obtain ⟨_, _, hrd⟩ := Kd.R_reads' HO.out
      have HFE := Aside0.mk hrd
      have hfl2 : few.length ≤ 100000 := by omega
      replace HP := Aside0.mk (blk_below HP.out HW.out)
      have hs6 := HB.out.size
      replace HB := Aside0.mk (HB.out.trans (HW.out.mono hs6))
      clear F1 F2 hle hy hp hrd hfew HF HX HKK
      go_wp2_with (first
        | (go_at_call 20; go_must (refine (from_any tb _).mono ?_; rintro e w9 ⟨g2, rfl, hc, _, hb⟩; have HC2 := Aside0.mk hc; replace HFE := Aside0.mk (Kd.C_below HFE.out hb); replace HP := Aside0.mk (blk_below HP.out hb); replace HB := Aside0.mk (HB.out.trans (hb.mono HB.out.size)); clear hb hc))
        | (go_at_call 19; go_must (refine (each_st _ HFE.out hfp hfl2 (asks_from HFE.out HC2.out)).mono ?_; rintro e w10 ⟨A9, c9, rfl, _, hb⟩; rw [HG.out.1, HG.out.2]; replace HFE := Aside0.mk (Kd.C_below HFE.out hb); replace HP := Aside0.mk (blk_below HP.out hb); replace HB := Aside0.mk (HB.out.trans (hb.mono HB.out.size)); clear hb)))
      obtain ⟨W11, hW11⟩ : ∃ W11, W11 = w10.alloc (Obj.cells #[.int .u64 y, .bool p, .slice A9 (eachS few (badF tb)).l.length c9] 31) := ⟨_, rfl⟩
      rw [← hW11]
      have k7 : W11.heap[w10.heap.size]? = some (foundObj y p (.slice A9 (eachS few (badF tb)).l.length c9)) := by rw [hW11]; exact blk_new w10 _
      have hb7 : Below w10.heap.size w10 W11 := by rw [hW11]; exact below_alloc (Below.refl _ _) _
      clear hW11
      have p0 : W11.cell? ⟨w8.heap.size, 0, none⟩ = some (.int .u64 x) := blk_cell (blk_below HP.out hb7) 0
      have p1 : W11.cell? ⟨w8.heap.size, 1, none⟩ = some (.bool o) := blk_cell (blk_below HP.out hb7) 1
      have r0 : W11.cell? ⟨w10.heap.size, 0, none⟩ = some (.int .u64 y) := blk_cell k7 0
      have r1 : W11.cell? ⟨w10.heap.size, 1, none⟩ = some (.bool p) := blk_cell k7 1
      replace HFE := Aside0.mk (Kd.C_below HFE.out hb7)
      replace HB := Aside0.mk (HB.out.trans (hb7.mono HB.out.size))
      clear k7 hb7
      go_loopg [13, 14, 15] few.length (fun gk v13 v14 v15 w' => ∃ (i : Nat) (z : Int) (q : Bool), v13 = .int .u64 z ∧ v14 = .bool q ∧ v15 = .int .i64 (i : Int) ∧ i + gk = few.length ∧ Aside0 (z = (wantS few tb i).1 ∧ q = (wantS few tb i).2) ∧ w' = W11)
      case atStart => exact ⟨0, 0, false, rfl, rfl, rfl, by omega, ⟨rfl, rfl⟩, rfl⟩
      case round =>
        obtain ⟨i, z, q, rfl, rfl, rfl, hig2, HZ, rfl⟩ := hrel
        by_cases hgo2 : i < few.length
        · obtain ⟨ad2, rfl, hcx⟩ := C_at HFE.out i hgo2
          by_cases hb : nth few i < tb
          · have HZ2 : Aside0 (nth few i = (wantS few tb (i + 1)).1 ∧ true = (wantS few tb (i + 1)).2) := ⟨by rw [wantS, if_pos hb]; exact ⟨rfl, rfl⟩⟩
            have f2 : decide (nth few i < tb) = true := decide_eq_true hb
            clear hb
            go_wp2
            go_roundg (gk - 1)
            case measure => omega
            case rel => exact ⟨i + 1, nth few i, true, rfl, rfl, by go_num, by omega, HZ2, rfl⟩
          · have HZ2 : Aside0 (z = (wantS few tb (i + 1)).1 ∧ q = (wantS few tb (i + 1)).2) := ⟨by rw [wantS, if_neg hb]; exact HZ.out⟩
            have f2 : decide (nth few i < tb) = false := decide_eq_false hb
            clear hb
            go_wp2
            go_roundg (gk - 1)
            case measure => omega
            case rel => exact ⟨i + 1, z, q, rfl, rfl, by go_num, by omega, HZ2, rfl⟩
        · obtain rfl : i = few.length := by omega
          obtain rfl : z = y := HZ.out.1.trans HY.out.1.symm
          obtain rfl : q = p := HZ.out.2.trans HY.out.2.symm
          cases q with
          | false =>
            go_wp2
            go_ret
            exact ⟨rfl, HB.out⟩
          | true =>
            obtain ⟨ho, hzx⟩ := HL.out rfl
            subst ho
            have f7 : decide (z ≤ x) = true := decide_eq_true hzx
            go_wp2
            go_ret
            exact ⟨rfl, HB.out⟩
end Go.Proofs.Yteikmlgcmhgaoaa.Search
