/- Plain facts: cells, and their bytes. No program. -/
import Derived.Test.YtghcnipehgjegaaPlain
namespace Go.Proofs.Ytghcnipehgjegaa.Plain
open Go
set_option linter.unusedVariables false
set_option linter.unusedSimpArgs false
/-- A cell's fields. -/
structure Cel where
  kind : Int
  num : Int
  min : Int
  br : Int
  vol : Int
  blk : Int
  ref : Int
  fr : Int
  to : Int
  un : Int
  body : List Int
deriving DecidableEq
def within (n most : Int) : Bool := decide (0 ≤ n ∧ n ≤ most)
def thereB (br vol blk : Int) : Bool := within br 15 && (within vol 7 && within blk 255)
/-- Which fields a kind has: a place, a reference, minutes, a body; is there such a kind? -/
def hasPlace (k : Int) : Bool := decide (1 ≤ k ∧ k ≤ 5)
def hasRef (k : Int) : Bool := decide (1 ≤ k ∧ k ≤ 4 ∨ k = 6 ∨ k = 7)
def hasMin (k : Int) : Bool := decide (k = 6)
def hasBody (k : Int) : Bool := decide (k = 1 ∨ k = 3)
def hasKind (k : Int) : Bool := decide (1 ≤ k ∧ k ≤ 8)
def elderB (x : Cel) : Bool := decide (1 ≤ x.ref ∧ x.ref < x.num)
def branchB (x : Cel) : Bool := decide (1 ≤ x.br ∧ x.br < 16)
/-- Are a kind's fields as they may be? -/
def fieldsK (k : Int) (x : Cel) : Bool :=
  if k = 1 then thereB x.br x.vol x.blk && (decide (x.ref ≤ 1) && decide ((x.body.length : Int) = 32))
  else if k = 2 then thereB x.br x.vol x.blk && elderB x
  else if k = 3 then thereB x.br x.vol x.blk && (elderB x && (decide (1 ≤ (x.body.length : Int)) && decide ((x.body.length : Int) ≤ 20)))
  else if k = 4 then branchB x && (within x.vol 15 && (!decide (x.vol = x.br) && (decide (x.blk = 0) && elderB x)))
  else if k = 5 then branchB x && (decide (x.vol = 0) && decide (x.blk = 0))
  else if k = 6 then decide (1 ≤ x.ref) && (decide (x.ref ≤ 65535) && (within x.fr x.to && (within x.to 1073741824 && within x.un 1073741824)))
  else if k = 7 then decide (1 ≤ x.ref) && decide (x.ref ≤ 65535)
  else true
def fieldsB (x : Cel) : Bool := fieldsK x.kind x
def sameB (x y : Cel) : Bool := decide (x = y)
theorem cel_ext {x y : Cel} (h0 : x.kind = y.kind) (h1 : x.num = y.num) (h2 : x.min = y.min) (h3 : x.br = y.br) (h4 : x.vol = y.vol) (h5 : x.blk = y.blk) (h6 : x.ref = y.ref) (h7 : x.fr = y.fr) (h8 : x.to = y.to) (h9 : x.un = y.un) (h10 : x.body = y.body) : x = y := by
  cases x; cases y; simp_all
def cel0 : Cel := ⟨0, 0, 0, 0, 0, 0, 0, 0, 0, 0, []⟩
/-- A cell with the fields alone that its kind has. -/
def keepC (x : Cel) : Cel :=
  ⟨x.kind, x.num, x.min, if hasPlace x.kind then x.br else 0, if hasPlace x.kind then x.vol else 0, if hasPlace x.kind then x.blk else 0, if hasRef x.kind then x.ref else 0,
   if hasMin x.kind then x.fr else 0, if hasMin x.kind then x.to else 0, if hasMin x.kind then x.un else 0, if hasBody x.kind then x.body else []⟩
/-- May a cell be? -/
def rightB (x : Cel) : Bool := hasKind x.kind && (sameB x (keepC x) && (decide (1 ≤ x.num) && (decide (x.num ≤ 65535) && (within x.min 1073741824 && fieldsB x))))
/-- What a cell's fields are, by their types. -/
def CelWf (x : Cel) : Prop := (0 ≤ x.num ∧ x.num < 2 ^ 64) ∧ (0 ≤ x.ref ∧ x.ref < 2 ^ 64) ∧ Byt x.body
/-- A cell that may be: by its kind. -/
theorem right_iff (x : Cel) (hw : CelWf x) : rightB x = true ↔ (1 ≤ x.num ∧ x.num ≤ 65535 ∧ 0 ≤ x.min ∧ x.min ≤ 1073741824) ∧
    ((x.kind = 1 ∧ (0 ≤ x.br ∧ x.br ≤ 15 ∧ 0 ≤ x.vol ∧ x.vol ≤ 7 ∧ 0 ≤ x.blk ∧ x.blk ≤ 255) ∧ (0 ≤ x.ref ∧ x.ref ≤ 1) ∧ (x.fr = 0 ∧ x.to = 0 ∧ x.un = 0) ∧ x.body.length = 32) ∨
     (x.kind = 2 ∧ (0 ≤ x.br ∧ x.br ≤ 15 ∧ 0 ≤ x.vol ∧ x.vol ≤ 7 ∧ 0 ≤ x.blk ∧ x.blk ≤ 255) ∧ (1 ≤ x.ref ∧ x.ref < x.num) ∧ (x.fr = 0 ∧ x.to = 0 ∧ x.un = 0) ∧ x.body = []) ∨
     (x.kind = 3 ∧ (0 ≤ x.br ∧ x.br ≤ 15 ∧ 0 ≤ x.vol ∧ x.vol ≤ 7 ∧ 0 ≤ x.blk ∧ x.blk ≤ 255) ∧ (1 ≤ x.ref ∧ x.ref < x.num) ∧ (x.fr = 0 ∧ x.to = 0 ∧ x.un = 0) ∧ (1 ≤ x.body.length ∧ x.body.length ≤ 20)) ∨
     (x.kind = 4 ∧ (1 ≤ x.br ∧ x.br ≤ 15 ∧ 0 ≤ x.vol ∧ x.vol ≤ 15 ∧ x.vol ≠ x.br ∧ x.blk = 0) ∧ (1 ≤ x.ref ∧ x.ref < x.num) ∧ (x.fr = 0 ∧ x.to = 0 ∧ x.un = 0) ∧ x.body = []) ∨
     (x.kind = 5 ∧ (1 ≤ x.br ∧ x.br ≤ 15 ∧ x.vol = 0 ∧ x.blk = 0) ∧ x.ref = 0 ∧ (x.fr = 0 ∧ x.to = 0 ∧ x.un = 0) ∧ x.body = []) ∨
     (x.kind = 6 ∧ (x.br = 0 ∧ x.vol = 0 ∧ x.blk = 0) ∧ (1 ≤ x.ref ∧ x.ref ≤ 65535) ∧ (0 ≤ x.fr ∧ x.fr ≤ x.to ∧ x.to ≤ 1073741824 ∧ 0 ≤ x.un ∧ x.un ≤ 1073741824) ∧ x.body = []) ∨
     (x.kind = 7 ∧ (x.br = 0 ∧ x.vol = 0 ∧ x.blk = 0) ∧ (1 ≤ x.ref ∧ x.ref ≤ 65535) ∧ (x.fr = 0 ∧ x.to = 0 ∧ x.un = 0) ∧ x.body = []) ∨
     (x.kind = 8 ∧ (x.br = 0 ∧ x.vol = 0 ∧ x.blk = 0) ∧ x.ref = 0 ∧ (x.fr = 0 ∧ x.to = 0 ∧ x.un = 0) ∧ x.body = [])) := by
  obtain ⟨kind, num, min, br, vol, blk, ref, fr, to, un, body⟩ := x
  obtain ⟨hn, hr, hb⟩ := hw
  simp only at hn hr hb ⊢
  by_cases hk : 1 ≤ kind ∧ kind ≤ 8
  · have hk' : kind = 1 ∨ kind = 2 ∨ kind = 3 ∨ kind = 4 ∨ kind = 5 ∨ kind = 6 ∨ kind = 7 ∨ kind = 8 := by omega
    rcases hk' with rfl | rfl | rfl | rfl | rfl | rfl | rfl | rfl <;>
      simp [rightB, hasKind, sameB, keepC, hasPlace, hasRef, hasMin, hasBody, within, fieldsB, fieldsK, thereB, elderB, branchB] <;> constructor <;> intro h <;> (try simp only [List.length_eq_zero_iff] at *) <;> (try simp_all) <;> (try omega)
  · have h1 : hasKind kind = false := decide_eq_false hk
    simp only [rightB, h1, Bool.false_and, Bool.false_eq_true, false_iff]
    rintro ⟨_, h⟩
    omega
end Go.Proofs.Ytghcnipehgjegaa.Plain
