/- How arguments are read: whatever the form reads as data of a type is laid in memory as the kinds (Kd) of the words say. No conditions. -/
import Derived.Test.YtghcnipehgjegaaBytes
import Derived.ChangeArms
import Derived.DataElems
import Derived.DataReads
namespace Go.Proofs.Ytghcnipehgjegaa.Kit
open Go.RowKit Go.Proofs.YtghcnipehgjegaaW.PrintWords
set_option linter.unusedVariables false
set_option linter.unusedSimpArgs false

/-- All that reads as data of type t lies as d says, and G holds of it. -/
def Opens {α : Type} (P : Program) (t : TypeId) (d : Kd α) (G : α → Prop) : Prop :=
  ∀ {H : Type} (enc : TypeId × Value → H) (w : World) (held : Bool) (fuel : Nat) (cs : List Value) (x : DataW H × List MemPlace), DataW.trod enc P w 0 (fun _ => true) held fuel t cs = some x → ∃ y, d.K w y cs ∧ G y
theorem Opens.mono {α : Type} {P : Program} {t : TypeId} {d : Kd α} {G G' : α → Prop} (h : Opens P t d G) (hG : ∀ y, G y → G' y) : Opens P t d G' := fun enc w held fuel cs x hx => by
  obtain ⟨y, h1, h2⟩ := h enc w held fuel cs x hx
  exact ⟨y, h1, hG y h2⟩
theorem opens_int {P : Program} {t : TypeId} {k : IntKind} (ht : P.underlying t = some (.int k)) : Opens P t (Kd.int k) (fun n => (Lit.int k n).wf = true) := fun enc w held fuel cs x hx => by
  obtain ⟨n, h, _, hw⟩ := DataW.trod_int ht hx
  exact ⟨n, h, hw⟩
theorem opens_bool {P : Program} {t : TypeId} (ht : P.underlying t = some .bool) : Opens P t Kd.bool (fun _ => True) := fun enc w held fuel cs x hx => by
  obtain ⟨b, h, _⟩ := DataW.trod_bool ht hx
  exact ⟨b, h, trivial⟩
theorem opens_slice {α : Type} {P : Program} {t e : TypeId} {d : Kd α} {G : α → Prop} (ht : P.underlying t = some (.slice e)) (hc : P.cellsOf e = d.sz) (hd : Opens P e d G) : Opens P t (Kd.slice e d) (fun l => l.length ≤ maxLen ∧ ∀ x ∈ l, G x) := fun enc w held fuel cs x hx => by
  rcases DataW.trod_slice ht hx with ⟨rfl, _⟩ | ⟨a, len, cap, elems, rest, n, _, rfl, _, hb, hl, hm, hlen, hel, _⟩
  · exact ⟨[], ⟨none, 0, rfl, Nat.le_refl _, Kd.C_nil _ _⟩, by simp, fun x hx => by cases hx⟩
  · have each : ∀ i : Fin len, ∃ y, (∃ cs', w.cells? 0 (a.add (i.1 * d.sz)) d.sz = some cs' ∧ d.K w y cs') ∧ G y := by
      intro i
      have h1 := hel i.1 i.2
      rw [hc, List.getElem?_eq_getElem (by rw [hlen]; exact i.2), Option.bind_eq_some_iff] at h1
      obtain ⟨cs', h2, h3⟩ := h1
      obtain ⟨y, h4, h5⟩ := hd enc w held n cs' _ h3
      exact ⟨y, ⟨cs', h2, h4⟩, h5⟩
    let f : Fin len → α := fun i => Classical.choose (each i)
    have hf : ∀ i, (∃ cs', w.cells? 0 (a.add (i.1 * d.sz)) d.sz = some cs' ∧ d.K w (f i) cs') ∧ G (f i) := fun i => Classical.choose_spec (each i)
    have hmax : len ≤ 9223372036854775807 := by unfold maxLen at hm; omega
    refine ⟨List.ofFn f, ⟨some a, cap, by rw [List.length_ofFn], by rw [List.length_ofFn]; exact hl, ⟨rfl, by rw [List.length_ofFn]; exact hmax, fun _ => ⟨a, rfl, fun j p hj => ?_⟩⟩⟩, ?_, ?_⟩
    · obtain ⟨hj1, hj2⟩ := List.getElem?_eq_some_iff.1 hj
      rw [List.length_ofFn] at hj1
      rw [List.getElem_ofFn] at hj2
      obtain ⟨⟨cs', h1, h2⟩, _⟩ := hf ⟨j, hj1⟩
      rw [hj2] at h2
      refine ⟨cs', d.K_len h2, h2, fun i u hu => ?_⟩
      have h3 := World.cells?_some h1
      have h4 := (List.getElem?_eq_some_iff.1 hu).1
      rw [d.K_len h2] at h4
      have := h3.2.2 i h4
      rw [add_add] at this
      rw [← hu]
      exact this
    · rw [List.length_ofFn]; unfold maxLen at hm ⊢; omega
    · intro x hx
      obtain ⟨i, rfl⟩ := List.mem_ofFn.1 hx
      exact (hf i).2
/-- Structs: all fields from a cell on. -/
def OpensF {α : Type} (P : Program) (fs : List Field) (off : Nat) (d : Kd α) (G : α → Prop) : Prop :=
  ∀ {H : Type} (enc : TypeId × Value → H) (w : World) (held : Bool) (n : Nat) (cs : List Value), cs.length = off + d.sz → (∀ f ∈ fs, ∃ x : DataW H × List MemPlace, DataW.trod enc P w 0 (fun _ => true) held n f.type ((cs.drop f.offset).take (P.cellsOf f.type)) = some x) → ∃ y, d.K w y (cs.drop off) ∧ G y
theorem opensF_one {α : Type} {P : Program} {f : Field} {off : Nat} {d : Kd α} {G : α → Prop} (ho : f.offset = off) (hc : P.cellsOf f.type = d.sz) (hd : Opens P f.type d G) : OpensF P [f] off d G := fun enc w held n cs hl hx => by
  obtain ⟨x, h⟩ := hx f (by simp)
  rw [ho, hc, List.take_of_length_le (by rw [List.length_drop]; omega)] at h
  exact hd enc w held n _ x h
theorem opensF_cons {α β : Type} {P : Program} {f : Field} {fs : List Field} {off : Nat} {a : Kd α} {b : Kd β} {G0 : α → Prop} {G1 : β → Prop} (ho : f.offset = off) (hc : P.cellsOf f.type = a.sz) (ha : Opens P f.type a G0) (hb : OpensF P fs (off + a.sz) b G1) :
    OpensF P (f :: fs) off (Kd.pair a b) (fun x => G0 x.1 ∧ G1 x.2) := fun enc w held n cs hl hx => by
  have hs : (Kd.pair a b).sz = a.sz + b.sz := rfl
  obtain ⟨x, h⟩ := hx f (by simp)
  rw [ho, hc] at h
  obtain ⟨y0, k0, g0⟩ := ha enc w held n _ x h
  obtain ⟨y1, k1, g1⟩ := hb enc w held n cs (by omega) (fun f' hf' => hx f' (by simp [hf']))
  refine ⟨(y0, y1), ⟨_, _, ?_, k0, k1⟩, g0, g1⟩
  rw [← List.drop_drop, List.take_append_drop]
theorem opens_struct {α : Type} {P : Program} {t : TypeId} {fs : Array Field} {d : Kd α} {G : α → Prop} (ht : P.underlying t = some (.struct fs)) (hc : P.cellsOf t = d.sz) (h : OpensF P fs.toList 0 d G) : Opens P t d G := fun enc w held fuel cs x hx => by
  obtain ⟨xs, n, _, _, hl, hlen, hf⟩ := DataW.trod_struct ht hx
  have := h enc w held n cs (by omega) (fun f hfm => by
    obtain ⟨i, hi, rfl⟩ := List.getElem_of_mem hfm
    have hi' : i < fs.size := by simpa using hi
    have h1 := hf i _ (show fs[i]? = some fs.toList[i] by simp [hi'])
    rw [List.getElem?_eq_getElem (by omega)] at h1
    exact ⟨_, h1⟩)
  simpa using this
theorem Opens.map {α β : Type} {P : Program} {t : TypeId} {d : Kd α} {d' : Kd β} {G : α → Prop} {G' : β → Prop} (h : Opens P t d G) (f : α → β) (hK : ∀ w y cs, d.K w y cs → d'.K w (f y) cs) (hG : ∀ y, G y → G' (f y)) : Opens P t d' G' := fun enc w held fuel cs x hx => by
  obtain ⟨y, h1, h2⟩ := h enc w held fuel cs x hx
  exact ⟨f y, hK _ _ _ h1, hG _ h2⟩
/-- Rows of bytes; rows of such rows. -/
def Wf8 (n : Int) : Prop := (Lit.int .u8 n).wf = true
theorem opensBytes : Opens Try.prog 28 Rw (fun l => l.length ≤ maxLen ∧ ∀ x ∈ l, (Lit.int .u8 x).wf = true) := opens_slice Try.underlying28 (by kernel_rfl) (opens_int Try.underlying5)
theorem opensRows : Opens Try.prog 31 (Kd.slice 28 Rw) (fun l => l.length ≤ maxLen ∧ ∀ r ∈ l, r.length ≤ maxLen ∧ ∀ x ∈ r, (Lit.int .u8 x).wf = true) := opens_slice Try.underlying31 (by kernel_rfl) opensBytes
end Go.Proofs.Ytghcnipehgjegaa.Kit
