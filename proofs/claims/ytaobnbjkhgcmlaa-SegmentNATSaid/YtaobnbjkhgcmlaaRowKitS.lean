/-
  A struct that reads as data: its fields.
-/
import Derived.Test.YtaobnbjkhgcmlaaRowKit
namespace Go.Proofs.Ytaobnbjkhgcmlaa
open Go.ChangeShapes Go.WideShapes Go.ChangeAt Go.RowKit

section
variable {H : Type} {enc : TypeId × Value → H} {P : Program} {W : World} {base : Nat} {spare : Nat → Bool} {held : Bool}
theorem field_at {t : TypeId} {fs : Array Field} {fuel : Nat} {cs : List Value} {x : DataW H × List MemPlace} (ht : P.underlying t = some (.struct fs)) (h : DataW.trod enc P W base spare held fuel t cs = some x) :
    ∃ m, ∀ (i : Nat) (f : Field) (n : Nat), fs[i]? = some f → P.cellsOf f.type = n → ∃ y, DataW.trod enc P W base spare held m f.type ((cs.drop f.offset).take n) = some y := by
  obtain ⟨xs, m, _, _, _, hxl, hi⟩ := DataW.trod_struct ht h
  refine ⟨m, fun i f n hf hn => ?_⟩
  subst hn
  have hlt : i < xs.length := by have := (Array.getElem?_eq_some_iff.1 hf).1; omega
  exact ⟨xs[i], (hi i f hf).trans (List.getElem?_eq_getElem hlt)⟩
theorem struct_len {t : TypeId} {fs : Array Field} {fuel : Nat} {cs : List Value} {x : DataW H × List MemPlace} (ht : P.underlying t = some (.struct fs)) (h : DataW.trod enc P W base spare held fuel t cs = some x) : cs.length = P.cellsOf t := by
  obtain ⟨xs, m, _, _, hl, _, _⟩ := DataW.trod_struct ht h
  exact hl
end
theorem one_eq {a b : Value} (h : [a] = [b]) : a = b := by injection h
end Go.Proofs.Ytaobnbjkhgcmlaa
