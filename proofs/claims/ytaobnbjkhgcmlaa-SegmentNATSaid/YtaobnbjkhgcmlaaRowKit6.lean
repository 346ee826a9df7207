/-
  What an argument that is a UDP datagram or a segment is to the walks.
-/
import Derived.Test.YtaobnbjkhgcmlaaRowKitS
import Derived.Test.YtaobnbjkhgcmlaaP6
namespace Go.Proofs.Ytaobnbjkhgcmlaa
open Go.ChangeShapes Go.WideShapes Go.ChangeAt Go.RowKit

theorem len3 {α : Type} {l : List α} (h : l.length = 3) : ∃ x0 x1 x2, l = [x0, x1, x2] := by
  match l, h with
  | [x0, x1, x2], _ => exact ⟨x0, x1, x2, rfl⟩
theorem len9 {α : Type} {l : List α} (h : l.length = 9) : ∃ x0 x1 x2 x3 x4 x5 x6 x7 x8, l = [x0, x1, x2, x3, x4, x5, x6, x7, x8] := by
  match l, h with
  | [x0, x1, x2, x3, x4, x5, x6, x7, x8], _ => exact ⟨x0, x1, x2, x3, x4, x5, x6, x7, x8, rfl⟩
section
variable {H : Type} {enc : TypeId × Value → H} {W : World} {base : Nat} {spare : Nat → Bool} {held : Bool}
set_option maxRecDepth 100000 in
theorem open_udp {v : Value} {d : DataW H} {p : List MemPlace} {r : Reach} {b0 : Nat} (hv : Value.okWide Try.prog W r b0 28 v) (h : DataW.Trod enc Try.prog W base spare held 28 v d p) :
    ∃ D A c, v = .agg (DU.cells D A c) ∧ RdU W.heap.size W D A c := by
  have ht := Try.underlying28
  simp only [Value.okWide, ht] at hv
  obtain ⟨cs, rfl, _⟩ := hv
  obtain ⟨fuel, hf⟩ := h
  have hlen : cs.toList.length = 3 := (struct_len ht hf).trans (by kernel_rfl)
  have hk : ∃ m, _ := field_at ht hf
  obtain ⟨m, g⟩ := hk
  obtain ⟨c0, c1, c2, hcs⟩ := len3 hlen
  have g : ∀ (i : Nat) (f : Field) (n : Nat), _ → _ → ∃ y, DataW.trod enc Try.prog W base spare held m f.type (([c0, c1, c2].drop f.offset).take n) = some y := hcs ▸ g
  obtain ⟨y0, e0⟩ := g 0 _ 1 rfl (by kernel_rfl)
  obtain ⟨y1, e1⟩ := g 1 _ 1 rfl (by kernel_rfl)
  obtain ⟨y2, e2⟩ := g 2 _ 1 rfl (by kernel_rfl)
  obtain ⟨src, q0, _, w0⟩ := DataW.trod_int Try.underlying22 e0
  have k0 : c0 = .int .u16 src := one_eq q0
  obtain ⟨dst, q1, _, w1⟩ := DataW.trod_int Try.underlying22 e1
  have k1 : c1 = .int .u16 dst := one_eq q1
  obtain ⟨lA, lc, l, q2, z2⟩ := cell_bytes Try.underlying24 Try.underlying5 (by kernel_rfl) e2
  have k2 : c2 = .slice lA l.length lc := one_eq q2
  subst k0 k1 k2
  have b0 := bounds_u16 w0
  have b0 : 0 ≤ src ∧ src < 65536 := by omega
  have b1 := bounds_u16 w1
  have b1 : 0 ≤ dst ∧ dst < 65536 := by omega
  refine ⟨⟨src, dst, l⟩, lA, lc, ?_, ⟨⟨b0, b1⟩, z2⟩⟩
  rw [← Array.toArray_toList (xs := cs), hcs]; rfl
set_option maxRecDepth 100000 in
theorem open_tcp {v : Value} {d : DataW H} {p : List MemPlace} {r : Reach} {b0 : Nat} (hv : Value.okWide Try.prog W r b0 26 v) (h : DataW.Trod enc Try.prog W base spare held 26 v d p) :
    ∃ D P, v = .agg (DT.cells D P) ∧ RdT W.heap.size W D P := by
  have ht := Try.underlying26
  simp only [Value.okWide, ht] at hv
  obtain ⟨cs, rfl, _⟩ := hv
  obtain ⟨fuel, hf⟩ := h
  have hlen : cs.toList.length = 9 := (struct_len ht hf).trans (by kernel_rfl)
  have hk : ∃ m, _ := field_at ht hf
  obtain ⟨m, g⟩ := hk
  obtain ⟨c0, c1, c2, c3, c4, c5, c6, c7, c8, hcs⟩ := len9 hlen
  have g : ∀ (i : Nat) (f : Field) (n : Nat), _ → _ → ∃ y, DataW.trod enc Try.prog W base spare held m f.type (([c0, c1, c2, c3, c4, c5, c6, c7, c8].drop f.offset).take n) = some y := hcs ▸ g
  obtain ⟨y0, e0⟩ := g 0 _ 1 rfl (by kernel_rfl)
  obtain ⟨y1, e1⟩ := g 1 _ 1 rfl (by kernel_rfl)
  obtain ⟨y2, e2⟩ := g 2 _ 1 rfl (by kernel_rfl)
  obtain ⟨y3, e3⟩ := g 3 _ 1 rfl (by kernel_rfl)
  obtain ⟨y4, e4⟩ := g 4 _ 1 rfl (by kernel_rfl)
  obtain ⟨y5, e5⟩ := g 5 _ 1 rfl (by kernel_rfl)
  obtain ⟨y6, e6⟩ := g 6 _ 1 rfl (by kernel_rfl)
  obtain ⟨y7, e7⟩ := g 7 _ 1 rfl (by kernel_rfl)
  obtain ⟨y8, e8⟩ := g 8 _ 1 rfl (by kernel_rfl)
  obtain ⟨src, q0, _, w0⟩ := DataW.trod_int Try.underlying22 e0
  have k0 : c0 = .int .u16 src := one_eq q0
  obtain ⟨dst, q1, _, w1⟩ := DataW.trod_int Try.underlying22 e1
  have k1 : c1 = .int .u16 dst := one_eq q1
  obtain ⟨seq, q2, _, w2⟩ := DataW.trod_int Try.underlying23 e2
  have k2 : c2 = .int .u32 seq := one_eq q2
  obtain ⟨ack, q3, _, w3⟩ := DataW.trod_int Try.underlying23 e3
  have k3 : c3 = .int .u32 ack := one_eq q3
  obtain ⟨flags, q4, _, w4⟩ := DataW.trod_int Try.underlying5 e4
  have k4 : c4 = .int .u8 flags := one_eq q4
  obtain ⟨window, q5, _, w5⟩ := DataW.trod_int Try.underlying22 e5
  have k5 : c5 = .int .u16 window := one_eq q5
  obtain ⟨urgent, q6, _, w6⟩ := DataW.trod_int Try.underlying22 e6
  have k6 : c6 = .int .u16 urgent := one_eq q6
  obtain ⟨olA, olc, ol, q7, z7⟩ := cell_bytes Try.underlying24 Try.underlying5 (by kernel_rfl) e7
  have k7 : c7 = .slice olA ol.length olc := one_eq q7
  obtain ⟨blA, blc, bl, q8, z8⟩ := cell_bytes Try.underlying24 Try.underlying5 (by kernel_rfl) e8
  have k8 : c8 = .slice blA bl.length blc := one_eq q8
  subst k0 k1 k2 k3 k4 k5 k6 k7 k8
  have b0 := bounds_u16 w0
  have b0 : 0 ≤ src ∧ src < 65536 := by omega
  have b1 := bounds_u16 w1
  have b1 : 0 ≤ dst ∧ dst < 65536 := by omega
  have b2 := bounds_u32 w2
  have b2 : 0 ≤ seq ∧ seq < 4294967296 := by omega
  have b3 := bounds_u32 w3
  have b3 : 0 ≤ ack ∧ ack < 4294967296 := by omega
  have b4 := bounds_u8 w4
  have b5 := bounds_u16 w5
  have b5 : 0 ≤ window ∧ window < 65536 := by omega
  have b6 := bounds_u16 w6
  have b6 : 0 ≤ urgent ∧ urgent < 65536 := by omega
  refine ⟨⟨src, dst, seq, ack, flags, window, urgent, ol, bl⟩, ⟨olA, olc, blA, blc⟩, ?_, ⟨⟨b0, b1, b2, b3, b4, b5, b6⟩, z7, z8⟩⟩
  rw [← Array.toArray_toList (xs := cs), hcs]; rfl
end
end Go.Proofs.Ytaobnbjkhgcmlaa
