/-
  What an argument that is a pair of addresses of both kinds is to the walks.
-/
import Derived.Test.YtaobnbjkhgcmlaaRowKit
import Derived.Test.YtaobnbjkhgcmlaaRowKitS
import Derived.Test.YtaobnbjkhgcmlaaP6S
namespace Go.Proofs.Ytaobnbjkhgcmlaa
open Go.ChangeShapes Go.WideShapes Go.ChangeAt Go.RowKit

theorem four_parts {l p q r s : List Value} {na nb nc nd : Nat} (h : l.length = na + nb + nc + nd) (h1 : (l.drop 0).take na = p) (h2 : (l.drop na).take nb = q) (h3 : (l.drop (na + nb)).take nc = r) (h4 : (l.drop (na + nb + nc)).take nd = s) : l = p ++ q ++ r ++ s := by
  subst h1 h2 h3 h4
  apply List.ext_getElem?
  intro i
  simp only [List.getElem?_append, List.length_append, List.length_take, List.length_drop, List.getElem?_take, List.getElem?_drop]
  repeat' split
  all_goals first
    | omega
    | (congr 1; omega)
    | (rw [List.getElem?_eq_none (by omega)])
section
variable {H : Type} {enc : TypeId × Value → H} {W : World} {base : Nat} {spare : Nat → Bool} {held : Bool}
set_option maxRecDepth 100000 in
theorem open_ends {v : Value} {d : DataW H} {p : List MemPlace} {r : Reach} {b0 : Nat} (hv : Value.okWide Try.prog W r b0 38 v) (h : DataW.Trod enc Try.prog W base spare held 38 v d p) :
    ∃ D, v = .agg (DE.cells D) ∧ D.ok := by
  have ht := Try.underlying38
  simp only [Value.okWide, ht] at hv
  obtain ⟨cs, rfl, _⟩ := hv
  obtain ⟨fuel, hf⟩ := h
  have hlen : cs.toList.length = 40 := (struct_len ht hf).trans (by kernel_rfl)
  have hk : ∃ m, _ := field_at ht hf
  obtain ⟨m, g⟩ := hk
  obtain ⟨y0, e0⟩ := g 0 _ 4 rfl (by kernel_rfl)
  obtain ⟨y1, e1⟩ := g 1 _ 4 rfl (by kernel_rfl)
  obtain ⟨y2, e2⟩ := g 2 _ 16 rfl (by kernel_rfl)
  obtain ⟨y3, e3⟩ := g 3 _ 16 rfl (by kernel_rfl)
  obtain ⟨a, q0, n0, r0⟩ := trod_u8s Try.underlying34 Try.underlying5 (by kernel_rfl) (by kernel_rfl) e0
  obtain ⟨b, q1, n1, r1⟩ := trod_u8s Try.underlying34 Try.underlying5 (by kernel_rfl) (by kernel_rfl) e1
  obtain ⟨c, q2, n2, r2⟩ := trod_u8s Try.underlying36 Try.underlying5 (by kernel_rfl) (by kernel_rfl) e2
  obtain ⟨d', q3, n3, r3⟩ := trod_u8s Try.underlying36 Try.underlying5 (by kernel_rfl) (by kernel_rfl) e3
  refine ⟨⟨a, b, c, d'⟩, ?_, ⟨n0, n1, n2, n3, r0, r1, r2, r3⟩⟩
  have := four_parts (na := 4) (nb := 4) (nc := 16) (nd := 16) hlen q0 q1 q2 q3
  rw [← Array.toArray_toList (xs := cs), this]
  simp [DE.cells, u8s]
end
end Go.Proofs.Ytaobnbjkhgcmlaa
