/-
  What an argument that is a message of ICMP is to the walks.
-/
import Derived.Test.YtgigdaemecokbaaRRRRowKitS
import Derived.Test.YtgigdaemecokbaaRRRP7
namespace Go.Proofs.YtgigdaemecokbaaRRR
open Go.ChangeShapes Go.WideShapes Go.ChangeAt Go.RowKit

section
variable {H : Type} {enc : TypeId × Value → H} {W : World} {base : Nat} {spare : Nat → Bool} {held : Bool}
theorem open_icmp {v : Value} {d : DataW H} {p : List MemPlace} {r : Reach} {b0 : Nat} (hv : Value.okWide Try.prog W r b0 25 v) (h : DataW.Trod enc Try.prog W base spare held 25 v d p) :
    ∃ D A c, v = .agg (D7.cells D A c) ∧ Rd7 W.heap.size W D A c := by
  have ht := Try.underlying25
  simp only [Value.okWide, ht] at hv
  obtain ⟨cs, rfl, _⟩ := hv
  obtain ⟨fuel, hf⟩ := h
  have hlen : cs.toList.length = 4 := (struct_len ht hf).trans (by kernel_rfl)
  have hk : ∃ m, _ := field_at ht hf
  obtain ⟨m, g⟩ := hk
  obtain ⟨c0, c1, c2, c3, hcs⟩ := len4 hlen
  have g : ∀ (i : Nat) (f : Field) (n : Nat), _ → _ → ∃ y, DataW.trod enc Try.prog W base spare held m f.type (([c0, c1, c2, c3].drop f.offset).take n) = some y := hcs ▸ g
  obtain ⟨y0, e0⟩ := g 0 _ 1 rfl (by kernel_rfl)
  obtain ⟨y1, e1⟩ := g 1 _ 1 rfl (by kernel_rfl)
  obtain ⟨y2, e2⟩ := g 2 _ 1 rfl (by kernel_rfl)
  obtain ⟨y3, e3⟩ := g 3 _ 1 rfl (by kernel_rfl)
  obtain ⟨ty, q0, _, w0⟩ := DataW.trod_int Try.underlying5 e0
  obtain ⟨code, q1, _, w1⟩ := DataW.trod_int Try.underlying5 e1
  obtain ⟨rest, q2, _, w2⟩ := DataW.trod_int Try.underlying22 e2
  obtain ⟨A, c, l, q3, y⟩ := cell_bytes Try.underlying23 Try.underlying5 (by kernel_rfl) e3
  have k0 : c0 = .int .u8 ty := one_eq q0
  have k1 : c1 = .int .u8 code := one_eq q1
  have k2 : c2 = .int .u32 rest := one_eq q2
  have k3 : c3 = .slice A l.length c := one_eq q3
  subst k0 k1 k2 k3
  have b2 := bounds_u32 w2
  have b3 : rest < 4294967296 := by omega
  refine ⟨⟨ty, code, rest, l⟩, A, c, ?_, ⟨⟨bounds_u8 w0, bounds_u8 w1, b2.1, b3⟩, y⟩⟩
  rw [← Array.toArray_toList (xs := cs), hcs]; rfl
end
end Go.Proofs.YtgigdaemecokbaaRRR
