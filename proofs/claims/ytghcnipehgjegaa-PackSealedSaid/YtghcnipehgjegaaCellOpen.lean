/- How cells among the arguments lie; what awake answers. Conditions stand in each statement. -/
import Derived.Test.YtghcnipehgjegaaCellEncode
import Derived.Test.YtghcnipehgjegaaOpen
namespace Go.Proofs.Ytghcnipehgjegaa.Cell
open Go.RowKit Go.Proofs.YtghcnipehgjegaaW.PrintWords Go.Proofs.YtghcnipehgjegaaW.PrintLast Go.Proofs.YtghcnipehgjegaaW.PrintMore Go.Proofs.Ytghcnipehgjegaa.Kit Go.Proofs.Ytghcnipehgjegaa.Plain Go.Proofs.Ytghcnipehgjegaa.Wire
set_option linter.unusedVariables false
set_option linter.unusedSimpArgs false
/-- The same kind, told of other data. -/
def comap {α β : Type} (d : Kd α) (f : β → α) : Kd β where
  sz := d.sz
  E := d.E
  K := fun w x cs => d.K w (f x) cs
  M := fun w b ok x cs => d.M w b ok (f x) cs
  K_len := fun h => d.K_len h
  K_one := fun h => d.K_one h
  K_below := fun hb h => d.K_below hb h
  K_of_M := fun h => d.K_of_M h
  M_mono := fun hok h => d.M_mono hok h
  M_bound := fun h => d.M_bound h
  M_move := fun hm h => d.M_move hm h
  M_lower := fun hb h => d.M_lower hb h
abbrev I64K : Kd Int := Kd.int .i64
abbrev U64K : Kd Int := Kd.int .u64
abbrev PlK : Kd (Int × Int × Int) := Kd.pair I64K (Kd.pair I64K I64K)
abbrev Tup : Type := Int × Int × Int × (Int × Int × Int) × Int × Int × Int × Int × List Int
abbrev TupK : Kd Tup := Kd.pair I64K (Kd.pair U64K (Kd.pair I64K (Kd.pair PlK (Kd.pair U64K (Kd.pair I64K (Kd.pair I64K (Kd.pair I64K Rw)))))))
def tupC (x : Cel) : Tup := (x.kind, x.num, x.min, (x.br, x.vol, x.blk), x.ref, x.fr, x.to, x.un, x.body)
def celT (y : Tup) : Cel := ⟨y.1, y.2.1, y.2.2.1, y.2.2.2.1.1, y.2.2.2.1.2.1, y.2.2.2.1.2.2, y.2.2.2.2.1, y.2.2.2.2.2.1, y.2.2.2.2.2.2.1, y.2.2.2.2.2.2.2.1, y.2.2.2.2.2.2.2.2⟩
def CelD : Kd Cel := comap TupK tupC
theorem celD_open {w : World} {x : Cel} {cs : List Value} (h : CelD.K w x cs) : ∃ A c, cs = (celA x A c).toList ∧ x.body.length ≤ c ∧ RdN w A x.body.length x.body := by
  obtain ⟨c0, d0, rfl, h0, c1, d1, rfl, h1, c2, d2, rfl, h2, c3, d3, rfl, ⟨p0, q0, rfl, k0, p1, p2, rfl, k1, k2⟩, c4, d4, rfl, h4, c5, d5, rfl, h5, c6, d6, rfl, h6, c7, d7, rfl, h7, A, c, rfl, hl, hC⟩ := h
  rw [show c0 = [.int .i64 x.kind] from h0, show c1 = [.int .u64 x.num] from h1, show c2 = [.int .i64 x.min] from h2, show p0 = [.int .i64 x.br] from k0, show p1 = [.int .i64 x.vol] from k1, show p2 = [.int .i64 x.blk] from k2,
    show c4 = [.int .u64 x.ref] from h4, show c5 = [.int .i64 x.fr] from h5, show c6 = [.int .i64 x.to] from h6, show c7 = [.int .i64 x.un] from h7]
  exact ⟨A, c, rfl, hl, hC⟩
theorem celD_mk {w : World} {x : Cel} {A : Option Addr} {c : Nat} (hl : x.body.length ≤ c) (hC : RdN w A x.body.length x.body) : CelD.K w x (celA x A c).toList :=
  ⟨[_], _, rfl, rfl, [_], _, rfl, rfl, [_], _, rfl, rfl, [_, _, _], _, rfl, ⟨[_], _, rfl, rfl, [_], [_], rfl, rfl, rfl⟩, [_], _, rfl, rfl, [_], _, rfl, rfl, [_], _, rfl, rfl, [_], [_], rfl, rfl, A, c, rfl, hl, hC⟩
theorem cel_open {w : World} {x : Cel} {cs : Array Value} (h : CelD.K w x cs.toList) : ∃ A c, cs = celA x A c ∧ x.body.length ≤ c ∧ RdN w A x.body.length x.body := by
  obtain ⟨A, c, he, hl, hC⟩ := celD_open h
  exact ⟨A, c, by rw [← Array.toArray_toList (xs := cs), he], hl, hC⟩
abbrev Wfi (n : Int) : Prop := (Lit.int .i64 n).wf = true
abbrev Wfu (n : Int) : Prop := (Lit.int .u64 n).wf = true
abbrev Wfb (l : List Int) : Prop := l.length ≤ maxLen ∧ ∀ x ∈ l, (Lit.int .u8 x).wf = true
theorem opensPl : Opens Try.prog 27 PlK (fun x => Wfi x.1 ∧ (fun y : Int × Int => Wfi y.1 ∧ Wfi y.2) x.2) := by
  apply opens_struct Try.underlying27 (by kernel_rfl)
  show OpensF _ (List.cons _ (List.cons _ (List.cons _ List.nil))) _ _ _
  apply @opensF_cons _ _ _ _ _ _ I64K (Kd.pair I64K I64K) Wfi (fun y : Int × Int => Wfi y.1 ∧ Wfi y.2)
  · rfl
  · kernel_rfl
  · exact opens_int Try.underlying3
  apply @opensF_cons _ _ _ _ _ _ I64K I64K Wfi Wfi
  · rfl
  · kernel_rfl
  · exact opens_int Try.underlying3
  apply opensF_one
  · rfl
  · kernel_rfl
  · exact opens_int Try.underlying3
theorem opensTup : Opens Try.prog 30 TupK (fun y : Int × Int × Int × (Int × Int × Int) × Int × Int × Int × Int × List Int => Wfi y.1 ∧ (fun y : Int × Int × (Int × Int × Int) × Int × Int × Int × Int × List Int => Wfu y.1 ∧ (fun y : Int × (Int × Int × Int) × Int × Int × Int × Int × List Int => Wfi y.1 ∧ (fun y : (Int × Int × Int) × Int × Int × Int × Int × List Int => (fun x : Int × Int × Int => Wfi x.1 ∧ (fun y : Int × Int => Wfi y.1 ∧ Wfi y.2) x.2) y.1 ∧ (fun y : Int × Int × Int × Int × List Int => Wfu y.1 ∧ (fun y : Int × Int × Int × List Int => Wfi y.1 ∧ (fun y : Int × Int × List Int => Wfi y.1 ∧ (fun y : Int × List Int => Wfi y.1 ∧ Wfb y.2) y.2) y.2) y.2) y.2) y.2) y.2) y.2) := by
  apply opens_struct Try.underlying30 (by kernel_rfl)
  show OpensF _ (List.cons _ (List.cons _ (List.cons _ (List.cons _ (List.cons _ (List.cons _ (List.cons _ (List.cons _ (List.cons _ (List.nil)))))))))) _ _ _
  apply @opensF_cons _ _ _ _ _ _ I64K (Kd.pair U64K (Kd.pair I64K (Kd.pair PlK (Kd.pair U64K (Kd.pair I64K (Kd.pair I64K (Kd.pair I64K Rw))))))) Wfi (fun y : Int × Int × (Int × Int × Int) × Int × Int × Int × Int × List Int => Wfu y.1 ∧ (fun y : Int × (Int × Int × Int) × Int × Int × Int × Int × List Int => Wfi y.1 ∧ (fun y : (Int × Int × Int) × Int × Int × Int × Int × List Int => (fun x : Int × Int × Int => Wfi x.1 ∧ (fun y : Int × Int => Wfi y.1 ∧ Wfi y.2) x.2) y.1 ∧ (fun y : Int × Int × Int × Int × List Int => Wfu y.1 ∧ (fun y : Int × Int × Int × List Int => Wfi y.1 ∧ (fun y : Int × Int × List Int => Wfi y.1 ∧ (fun y : Int × List Int => Wfi y.1 ∧ Wfb y.2) y.2) y.2) y.2) y.2) y.2) y.2)
  · rfl
  · kernel_rfl
  · exact opens_int Try.underlying3
  apply @opensF_cons _ _ _ _ _ _ U64K (Kd.pair I64K (Kd.pair PlK (Kd.pair U64K (Kd.pair I64K (Kd.pair I64K (Kd.pair I64K Rw)))))) Wfu (fun y : Int × (Int × Int × Int) × Int × Int × Int × Int × List Int => Wfi y.1 ∧ (fun y : (Int × Int × Int) × Int × Int × Int × Int × List Int => (fun x : Int × Int × Int => Wfi x.1 ∧ (fun y : Int × Int => Wfi y.1 ∧ Wfi y.2) x.2) y.1 ∧ (fun y : Int × Int × Int × Int × List Int => Wfu y.1 ∧ (fun y : Int × Int × Int × List Int => Wfi y.1 ∧ (fun y : Int × Int × List Int => Wfi y.1 ∧ (fun y : Int × List Int => Wfi y.1 ∧ Wfb y.2) y.2) y.2) y.2) y.2) y.2)
  · rfl
  · kernel_rfl
  · exact opens_int Try.underlying25
  apply @opensF_cons _ _ _ _ _ _ I64K (Kd.pair PlK (Kd.pair U64K (Kd.pair I64K (Kd.pair I64K (Kd.pair I64K Rw))))) Wfi (fun y : (Int × Int × Int) × Int × Int × Int × Int × List Int => (fun x : Int × Int × Int => Wfi x.1 ∧ (fun y : Int × Int => Wfi y.1 ∧ Wfi y.2) x.2) y.1 ∧ (fun y : Int × Int × Int × Int × List Int => Wfu y.1 ∧ (fun y : Int × Int × Int × List Int => Wfi y.1 ∧ (fun y : Int × Int × List Int => Wfi y.1 ∧ (fun y : Int × List Int => Wfi y.1 ∧ Wfb y.2) y.2) y.2) y.2) y.2)
  · rfl
  · kernel_rfl
  · exact opens_int Try.underlying3
  apply @opensF_cons _ _ _ _ _ _ PlK (Kd.pair U64K (Kd.pair I64K (Kd.pair I64K (Kd.pair I64K Rw)))) (fun x : Int × Int × Int => Wfi x.1 ∧ (fun y : Int × Int => Wfi y.1 ∧ Wfi y.2) x.2) (fun y : Int × Int × Int × Int × List Int => Wfu y.1 ∧ (fun y : Int × Int × Int × List Int => Wfi y.1 ∧ (fun y : Int × Int × List Int => Wfi y.1 ∧ (fun y : Int × List Int => Wfi y.1 ∧ Wfb y.2) y.2) y.2) y.2)
  · rfl
  · kernel_rfl
  · exact opensPl
  apply @opensF_cons _ _ _ _ _ _ U64K (Kd.pair I64K (Kd.pair I64K (Kd.pair I64K Rw))) Wfu (fun y : Int × Int × Int × List Int => Wfi y.1 ∧ (fun y : Int × Int × List Int => Wfi y.1 ∧ (fun y : Int × List Int => Wfi y.1 ∧ Wfb y.2) y.2) y.2)
  · rfl
  · kernel_rfl
  · exact opens_int Try.underlying25
  apply @opensF_cons _ _ _ _ _ _ I64K (Kd.pair I64K (Kd.pair I64K Rw)) Wfi (fun y : Int × Int × List Int => Wfi y.1 ∧ (fun y : Int × List Int => Wfi y.1 ∧ Wfb y.2) y.2)
  · rfl
  · kernel_rfl
  · exact opens_int Try.underlying3
  apply @opensF_cons _ _ _ _ _ _ I64K (Kd.pair I64K Rw) Wfi (fun y : Int × List Int => Wfi y.1 ∧ Wfb y.2)
  · rfl
  · kernel_rfl
  · exact opens_int Try.underlying3
  apply @opensF_cons _ _ _ _ _ _ I64K Rw Wfi Wfb
  · rfl
  · kernel_rfl
  · exact opens_int Try.underlying3
  apply opensF_one
  · rfl
  · kernel_rfl
  · exact opensBytes
/-- What the types tell of a cell. -/
structure CelTy (x : Cel) : Prop where
  wf : CelWf x
  kind : -9223372036854775808 ≤ x.kind ∧ x.kind ≤ 9223372036854775807
  small : x.body.length ≤ maxLen
theorem opensCel : Opens Try.prog 30 CelD CelTy := by
  apply Opens.map opensTup celT
  · intro w y cs h; exact h
  · intro y h
    obtain ⟨h0, h1, _, _, h4, _, _, _, h8⟩ := h
    exact ⟨⟨wf_u64 h1, wf_u64 h4, wf_byt h8.2⟩, wf_i64 h0, h8.1⟩
def cel8 : Cel := ⟨8, 5, 9, 0, 0, 0, 0, 0, 0, 0, []⟩
theorem wf8 : CelWf cel8 := ⟨⟨by decide, by decide⟩, ⟨by decide, by decide⟩, Byt.nil⟩
theorem encS_awake : encS cel8 = [8, 0, 5, 0, 0, 0, 9] := by decide
theorem str_awake : strOfNums [8, 0, 5, 0, 0, 0, 9] = { data := #[8, 0, 5, 0, 0, 0, 9] } := by kernel_rfl
end Go.Proofs.Ytghcnipehgjegaa.Cell
