/- What pack.Open answers, for any bytes. Conditions stand in each statement. -/
import Derived.Test.YtghcnipehgjegaaPackGroups
import Derived.Test.YtghcnipehgjegaaCellList
import Derived.Test.YtghcnipehgjegaaCellDecode
namespace Go.Proofs.Ytghcnipehgjegaa.Plain
open Go
/-- The cells of a body, or none. -/
def openR (b : List Int) : Option (List Cel) := if 103 < b.length then none else openS (b.length + 1) b
theorem openS_more : ∀ (f g : Nat) (b : List Int), Byt b → b.length < f → b.length < g → openS f b = openS g b
  | 0, _, _, _, h, _ => by omega
  | _, 0, _, _, _, h => by omega
  | f + 1, g + 1, b, hy, hf, hg => by
    rw [openS, openS]
    by_cases h0 : b.length = 0
    · rw [if_pos h0, if_pos h0]
    · rw [if_neg h0, if_neg h0]
      by_cases h1 : (decS b).2.2 = 0
      · rw [if_pos h1, if_pos h1]
        have hd : decS b = ((decS b).1, (decS b).2.1, 0) := by rw [← h1]
        obtain ⟨hr, hw, he⟩ := dec_inv hy hd
        have hl := (encS_len _ hw hr).2.2
        have hll := congrArg List.length he
        rw [List.length_append] at hll
        have hyr : Byt (decS b).2.1 := fun z hz => hy z (by rw [← he]; exact List.mem_append_right _ hz)
        rw [openS_more f g _ hyr (by omega) (by omega)]
      · rw [if_neg h1, if_neg h1]
theorem openR_all {l : List Cel} (h : FineL l) (hl : (encAll l).length ≤ 103) : openR (encAll l) = some l := by
  have hn : l.length ≤ (encAll l).length := by
    clear hl
    induction l with
    | nil => simp
    | cons x l ih =>
      have h1 := (encS_len x (h x (by simp)).1 (h x (by simp)).2).2.2
      have h2 := ih (fun y hy => h y (by simp [hy]))
      rw [encAll_cons, List.length_append, List.length_cons]
      omega
  rw [openR, if_neg (by omega)]
  exact open_all l _ h (by omega)
end Go.Proofs.Ytghcnipehgjegaa.Plain
namespace Go.Proofs.Ytghcnipehgjegaa.Cell
open Go.RowKit Go.Proofs.YtghcnipehgjegaaW.PrintWords Go.Proofs.YtghcnipehgjegaaW.PrintLast Go.Proofs.YtghcnipehgjegaaW.PrintMore Go.Proofs.Ytghcnipehgjegaa.Kit Go.Proofs.Ytghcnipehgjegaa.Plain Go.Proofs.Ytghcnipehgjegaa.Wire
set_option linter.unusedVariables false
set_option linter.unusedSimpArgs false
theorem infoCelO : (Try.prog.info? 30).map (fun i => (i.zero, i.size, i.bytes)) = some (some (.agg (celA cel0 none 0)), 11, 104) := by kernel_rfl
/-- Cells of one's own, their bodies one's own, too. -/
abbrev OwC (w : World) (base : Nat) (v : Value) (l : List Cel) : Prop := Kd.R CelD 30 w base (fun _ => True) v l
theorem celD_M {w : World} {base : Nat} {ok : Nat → Prop} {x : Cel} {A : Option Addr} {c : Nat} (hR : Kd.R (Kd.int .u8) 5 w base ok (.slice A x.body.length c) x.body) : CelD.M w base ok x (celA x A c).toList :=
  ⟨[_], _, rfl, rfl, [_], _, rfl, rfl, [_], _, rfl, rfl, [_, _, _], _, rfl, ⟨[_], _, rfl, rfl, [_], [_], rfl, rfl, rfl⟩, [_], _, rfl, rfl, [_], _, rfl, rfl, [_], _, rfl, rfl, [_], [_], rfl, rfl, _, rfl, hR⟩
theorem decode_vN (A : Option Addr) (n c : Nat) (b : List Int) (v w : World) (hv : Below v.heap.size v w) (hr : RdN v A n b) (hc : n ≤ c) (hy : Byt b) (hl : n ≤ 1000) :
    Calls Try.prog 27 #[.slice A n c] w fun e w' => DecdV v w w' e (decS b) := by
  obtain rfl := C_len hr
  exact decode_v A c b v w hv hr hc hy hl
/-- What an opening leaves. -/
def Opend (w w' : World) (e : Ending) (r : Option (List Cel)) : Prop :=
  ((∀ l, r = some l → ∃ v, e = .returned (.tuple #[v, .bool true]) ∧ OwC w' w.heap.size v l) ∧ (r = none → e = .returned (.tuple #[.slice none 0 0, .bool false]))) ∧ Below w.heap.size w w'
set_option maxHeartbeats 3200000 in
set_option maxRecDepth 100000 in
theorem open_any (A : Option Addr) (n c : Nat) (b : List Int) (w : World) (hr : RdN w A n b) (hc : n ≤ c) (hy : Byt b) :
    Calls Try.prog 16 #[.slice A n c] w fun e w' => Opend w w' e (openR b) := by
  obtain rfl := C_len hr
  have hmx := C_max hr
  by_cases hlen : 103 < b.length
  · have g0 : (b.length : Int) > 103 := by omega
    have HE := Aside0.mk (show openR b = none by rw [openR, if_pos hlen])
    clear hlen
    go_enter Try.func16, Try.ntmps16
    go_wp2
    go_ret2
    rw [HE.out]
    exact ⟨⟨fun l h => (by cases h), fun _ => rfl⟩, Below.refl _ _⟩
  have g0 : ¬ (b.length : Int) > 103 := by omega
  have HE := Aside0.mk (show openR b = openS (b.length + 1) b by rw [openR, if_neg hlen])
  have HL := Aside0.mk (show b.length ≤ 103 by omega)
  have HR := Aside0.mk (And.intro hr (And.intro hc hy))
  clear hr hc hy hlen
  have HB := Aside0.mk (Below.refl w.heap.size w)
  go_enter Try.func16, Try.ntmps16
  go_wp2
  go_loopg [0, 4] b.length (fun gk v0 v4 w' => ∃ (A' : Option Addr) (c' : Nat) (r : List Int) (acc : List Cel) (f : Nat), v0 = .slice A' r.length c' ∧ gk = r.length ∧ acc.length + r.length ≤ b.length ∧ Aside0 (RdN w A' r.length r ∧ r.length ≤ c' ∧ Byt r ∧ r.length < f) ∧
    Aside0 (openS (b.length + 1) b = (openS f r).map (fun l => acc ++ l)) ∧ Aside0 (OwC w' w.heap.size v4 acc) ∧ Aside0 (Below w.heap.size w w'))
  case atStart => exact ⟨A, c, b, [], b.length + 1, rfl, rfl, by simp, ⟨HR.out.1, HR.out.2.1, HR.out.2.2, by omega⟩, ⟨by simp⟩, ⟨Kd.R_nil _ _ _ _ _⟩, HB⟩
  case round =>
    clear HB HR g0
    obtain ⟨A', c', r, acc, f, rfl, rfl, hacc, HR, HF, HO, HB⟩ := hrel
    obtain ⟨rl, hrl⟩ : ∃ n, n = r.length := ⟨_, rfl⟩
    rw [← hrl] at hacc HR ⊢
    have HRL := Aside0.mk hrl
    have hb103 := HL.out
    by_cases h0 : 0 < rl
    · have g1 : (rl : Int) > 0 := by omega
      obtain ⟨s, hs⟩ : ∃ s, s = decS r := ⟨_, rfl⟩
      obtain ⟨x, rest, er⟩ := s
      obtain ⟨f', hf'⟩ : ∃ f', f = f' + 1 := ⟨f - 1, by have := HR.out.2.2.2; omega⟩
      have HFF := Aside0.mk hf'
      clear hf'
      by_cases he : er = 0
      · subst he
        obtain ⟨hrx, hwx, hre⟩ := dec_inv HR.out.2.2.1 hs.symm
        have hxl := (encS_len x hwx hrx).2.2
        have hll := congrArg List.length hre
        rw [List.length_append, ← hrl] at hll
        have HX := Aside0.mk hwx
        have HST := Aside0.mk (show openS f r = (openS f' rest).map (fun l => x :: l) by
          rw [HFF.out, openS, if_neg (by omega), if_pos (by rw [← hs]), ← hs])
        have HYR := Aside0.mk (show Byt rest from fun z hz => HR.out.2.2.1 z (by rw [← hre]; exact List.mem_append_right _ hz))
        obtain ⟨lr, hlr⟩ : ∃ n, n = rest.length := ⟨_, rfl⟩
        have hlt : lr < rl := by omega
        have g2 : ¬ (lr : Int) ≥ (rl : Int) := by omega
        have HLR := Aside0.mk hlr
        have HDE := Aside0.mk hs.symm
        clear hs hrx hwx hre hxl hll hlr hrl
        go_upto_region 6 with (go_at_call 27; go_must (refine (decode_vN A' rl c' r w wr HB.out HR.out.1 HR.out.2.1 HR.out.2.2.1 (by omega)).mono ?_; rintro e y6 hd; rw [HDE.out] at hd; obtain ⟨⟨A1, k1, A4, k4, rfl, ho, hr4, hk4⟩, hb⟩ := hd; simp only at ho hr4 hk4 ⊢; rw [← HLR.out] at hk4 ⊢; have HR4 := Aside0.mk (show RdN w A4 lr rest by rw [HLR.out]; exact hr4); have HK4 := Aside0.mk hk4; have HO1 := Aside0.mk (Kd.R_lower ho HB.out.size); replace HO := Aside0.mk (Kd.R_below HO.out hb); replace HB := Aside0.mk (HB.out.trans (hb.mono HB.out.size)); clear hb ho hr4 hk4))
        obtain ⟨y7, hy7⟩ : ∃ w3, w3 = y6.alloc (.cells (celA x A1 k1) 30) := ⟨_, rfl⟩
        rw [← hy7]
        have hb : Below y6.heap.size y6 y7 := by rw [hy7]; exact below_alloc (Below.refl _ _) _
        have hD : y7.heap[y6.heap.size]? = some (.cells (celA x A1 k1) 30 (0, 0)) := by rw [hy7]; exact blk_new _ _
        replace HO := Aside0.mk (Kd.R_below HO.out hb)
        replace HO1 := Aside0.mk (Kd.R_below HO1.out hb)
        replace HB := Aside0.mk (HB.out.trans (hb.mono HB.out.size));
        clear hy7 hb
        obtain ⟨c0, c1, c2, c3, c4, c5, c6, c7, c8, c9⟩ := cel_at (x := x) (A := A1) (c := k1) hD; have c10 : y7.cell? ⟨y6.heap.size, 10, none⟩ = some (.slice A1 x.body.length k1) := blk_cell hD 10
        clear hD
        go_wp2_with ((with_reducible refine gate_builtin (b := .append) (xs := #[.tmp 29, .tmp 31]) rfl ?_); at_builtin; go_must (refine Kd.R_append CelD (w0 := w) w.heap.size rfl (.tmp 29) (.tmp 31) 22 30 (.agg (celA cel0 none 0)) 104 rfl Try.underlying22 infoCelO rfl (by decide) (by omega) _ acc x (celA x A1 k1).toList (fun _ => True) (fun k => some k = (Value.slice A1 x.body.length k1).ownBlock) rfl rfl ?hp ?hokp (fun _ _ => trivial) HO.out HB.out HB.out.size (by omega) ?_; (case hp => exact celD_M (Kd.R_tight rfl HO1.out)); (case hokp => exact fun k hk => ⟨trivial, (by obtain ⟨cells, hc⟩ := Kd.R_typed HO1.out k hk.symm; exact Kd.R_ne HO.out hc (by decide))⟩); intro v32 w32 ho hb hg hat; clear HO HB; have HO := Aside0.mk ho; have HB := Aside0.mk hb; clear ho hb hg hat))
        go_roundg lr
        case measure => have := HRL.out; omega
        case rel => exact ⟨A4, k4, rest, acc ++ [x], f', by rw [← HLR.out], by rw [← HLR.out], by rw [List.length_append, List.length_singleton, ← HLR.out]; omega, ⟨by rw [← HLR.out]; exact HR4.out, by rw [← HLR.out]; exact HK4.out, HYR.out, by have := HR.out.2.2.2; have := HFF.out; rw [← HLR.out]; omega⟩, ⟨by rw [HF.out, HST.out, Option.map_map]; congr 1; funext l; simp⟩, HO, HB⟩
      · have HST := Aside0.mk (show openS f r = none by rw [HFF.out, openS, if_neg (by omega), if_neg (by rw [← hs]; exact he)])
        obtain ⟨rfl, rfl, hee⟩ := dec_none hs.symm he
        have g2 : (er == 0) = false := beq_eq_false_iff_ne.2 he
        have g3 : (er != 0) = true := bne_iff_ne.2 he
        have HDE := Aside0.mk hs.symm
        clear hs he hee hrl
        go_wp2_with (go_at_call 27; go_must (refine (decode_vN A' rl c' r w wr HB.out HR.out.1 HR.out.2.1 HR.out.2.2.1 (by omega)).mono ?_; rintro e y6 hd; rw [HDE.out] at hd; obtain ⟨⟨A1, k1, A4, k4, rfl, _, _, _⟩, hb⟩ := hd; simp only [cel0, List.length_nil]; replace HB := Aside0.mk (HB.out.trans (hb.mono HB.out.size)); clear hb))
        go_ret2
        rw [HE.out, HF.out, HST.out]
        exact ⟨⟨fun l h => (by cases h), fun _ => rfl⟩, HB.out.alloc HB.out.size _⟩
    · have HST := Aside0.mk (show openS f r = some [] by
        obtain ⟨f', hf'⟩ : ∃ f', f = f' + 1 := ⟨f - 1, by have := HR.out.2.2.2; omega⟩
        rw [hf', openS, if_pos (by omega)])
      have g1 : ¬ (rl : Int) > 0 := by omega
      clear h0 hrl
      go_wp2
      go_ret2
      rw [HE.out, HF.out, HST.out]
      exact ⟨⟨fun l h => (by simp only [Option.map_some, Option.some.injEq, List.append_nil] at h; subst h; exact ⟨_, rfl, HO.out⟩), fun h => (by cases h)⟩, HB.out⟩
end Go.Proofs.Ytghcnipehgjegaa.Cell
