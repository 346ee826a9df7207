/-
  What an argument that is an IPv4 datagram is to the walks.
-/
import Derived.Test.YtfkcejfjmfliaaaRowKit
import Derived.Test.YtfkcejfjmfliaaaP4
namespace Go.Proofs.Ytfkcejfjmfliaaa
open Go.ChangeShapes Go.WideShapes Go.ChangeAt Go.RowKit

section
variable {H : Type} {enc : TypeId × Value → H} {P : Program} {W : World} {base : Nat} {spare : Nat → Bool} {held : Bool}
theorem field_at {t : TypeId} {fs : Array Field} {fuel : Nat} {cs : List Value} {x : DataW H × List MemPlace} (ht : P.underlying t = some (.struct fs)) (h : DataW.trod enc P W base spare held fuel t cs = some x) :
    ∃ m, ∀ (i : Nat) (f : Field) (n : Nat), fs[i]? = some f → P.cellsOf f.type = n → ∃ y, DataW.trod enc P W base spare held m f.type ((cs.drop f.offset).take n) = some y := by
  obtain ⟨xs, m, _, _, _, hxl, hi⟩ := DataW.trod_struct ht h
  refine ⟨m, fun i f n hf hn => ?_⟩
  subst hn
  have hlt : i < xs.length := by have := (Array.getElem?_eq_some_iff.1 hf).1; omega
  exact ⟨xs[i], (hi i f hf).trans (List.getElem?_eq_getElem hlt)⟩
theorem struct_len {t : TypeId} {fs : Array Field} {fuel : Nat} {cs : List Value} {x : DataW H × List MemPlace} (ht : P.underlying t = some (.struct fs)) (h : DataW.trod enc P W base spare held fuel t cs = some x) : cs.length = P.cellsOf t := by
  obtain ⟨xs, m, _, _, hl, _, _⟩ := DataW.trod_struct ht h
  exact hl
end
theorem len17 {α : Type} {l : List α} (h : l.length = 17) : ∃ x0 x1 x2 x3 x4 x5 x6 x7 x8 x9 x10 x11 x12 x13 x14 x15 x16, l = [x0, x1, x2, x3, x4, x5, x6, x7, x8, x9, x10, x11, x12, x13, x14, x15, x16] := by
  match l, h with
  | [x0, x1, x2, x3, x4, x5, x6, x7, x8, x9, x10, x11, x12, x13, x14, x15, x16], _ => exact ⟨x0, x1, x2, x3, x4, x5, x6, x7, x8, x9, x10, x11, x12, x13, x14, x15, x16, rfl⟩
theorem one_eq {a b : Value} (h : [a] = [b]) : a = b := by injection h

section
variable {H : Type} {enc : TypeId × Value → H} {W : World} {base : Nat} {spare : Nat → Bool} {held : Bool}
theorem open_v4 {v : Value} {d : DataW H} {p : List MemPlace} {r : Reach} {b0 : Nat} (hv : Value.okWide Try.prog W r b0 27 v) (h : DataW.Trod enc Try.prog W base spare held 27 v d p) :
    ∃ D w4, v = .agg (D4.cells D w4) ∧ Rd4 W.heap.size W D w4 := by
  have ht := Try.underlying27
  simp only [Value.okWide, ht] at hv
  obtain ⟨cs, rfl, _⟩ := hv
  obtain ⟨fuel, hf⟩ := h
  have hlen : cs.toList.length = 17 := (struct_len ht hf).trans (by kernel_rfl)
  have hk : ∃ m, _ := field_at ht hf
  obtain ⟨m, g⟩ := hk
  obtain ⟨c0, c1, c2, c3, c4, c5, c6, c7, c8, c9, c10, c11, c12, c13, c14, c15, c16, hcs⟩ := len17 hlen
  have g : ∀ (i : Nat) (f : Field) (n : Nat), _ → _ → ∃ y, DataW.trod enc Try.prog W base spare held m f.type (([c0, c1, c2, c3, c4, c5, c6, c7, c8, c9, c10, c11, c12, c13, c14, c15, c16].drop f.offset).take n) = some y := hcs ▸ g
  obtain ⟨y0, e0⟩ := g 0 _ 1 rfl (by kernel_rfl)
  obtain ⟨y1, e1⟩ := g 1 _ 1 rfl (by kernel_rfl)
  obtain ⟨y2, e2⟩ := g 2 _ 1 rfl (by kernel_rfl)
  obtain ⟨y3, e3⟩ := g 3 _ 1 rfl (by kernel_rfl)
  obtain ⟨y4, e4⟩ := g 4 _ 1 rfl (by kernel_rfl)
  obtain ⟨y5, e5⟩ := g 5 _ 1 rfl (by kernel_rfl)
  obtain ⟨y6, e6⟩ := g 6 _ 1 rfl (by kernel_rfl)
  obtain ⟨y7, e7⟩ := g 7 _ 4 rfl (by kernel_rfl)
  obtain ⟨y8, e8⟩ := g 8 _ 4 rfl (by kernel_rfl)
  obtain ⟨y9, e9⟩ := g 9 _ 1 rfl (by kernel_rfl)
  obtain ⟨y10, e10⟩ := g 10 _ 1 rfl (by kernel_rfl)
  obtain ⟨tos, q0, _, w0⟩ := DataW.trod_int Try.underlying5 e0
  obtain ⟨id, q1, _, w1⟩ := DataW.trod_int Try.underlying22 e1
  obtain ⟨df, q2, _⟩ := DataW.trod_bool Try.underlying4 e2
  obtain ⟨mf, q3, _⟩ := DataW.trod_bool Try.underlying4 e3
  obtain ⟨off, q4, _, w4⟩ := DataW.trod_int Try.underlying3 e4
  obtain ⟨ttl, q5, _, w5⟩ := DataW.trod_int Try.underlying5 e5
  obtain ⟨pro, q6, _, w6⟩ := DataW.trod_int Try.underlying5 e6
  obtain ⟨s, q7, n7, r7⟩ := trod_u8s Try.underlying24 Try.underlying5 (by kernel_rfl) (by kernel_rfl) e7
  obtain ⟨t, q8, n8, r8⟩ := trod_u8s Try.underlying24 Try.underlying5 (by kernel_rfl) (by kernel_rfl) e8
  obtain ⟨oA, oc, ol, q9, yo⟩ := cell_bytes Try.underlying25 Try.underlying5 (by kernel_rfl) e9
  obtain ⟨bA, bc, bl, q10, yb⟩ := cell_bytes Try.underlying25 Try.underlying5 (by kernel_rfl) e10
  obtain ⟨s0, s1, s2, s3, rfl⟩ := len4 n7
  obtain ⟨t0, t1, t2, t3, rfl⟩ := len4 n8
  have k0 : c0 = .int .u8 tos := one_eq q0
  have k1 : c1 = .int .u16 id := one_eq q1
  have k2 : c2 = .bool df := one_eq q2
  have k3 : c3 = .bool mf := one_eq q3
  have k4 : c4 = .int .i64 off := one_eq q4
  have k5 : c5 = .int .u8 ttl := one_eq q5
  have k6 : c6 = .int .u8 pro := one_eq q6
  have k9 : c15 = .slice oA ol.length oc := one_eq q9
  have k10 : c16 = .slice bA bl.length bc := one_eq q10
  have q7 : [c7, c8, c9, c10] = [.int .u8 s0, .int .u8 s1, .int .u8 s2, .int .u8 s3] := q7
  have q8 : [c11, c12, c13, c14] = [.int .u8 t0, .int .u8 t1, .int .u8 t2, .int .u8 t3] := q8
  simp only [List.cons.injEq, and_true] at q7 q8
  obtain ⟨rfl, rfl, rfl, rfl⟩ := q7
  obtain ⟨rfl, rfl, rfl, rfl⟩ := q8
  subst k0 k1 k2 k3 k4 k5 k6 k9 k10
  refine ⟨⟨tos, id, df, mf, off, ttl, pro, s0, s1, s2, s3, t0, t1, t2, t3, ol, bl⟩, ⟨oA, oc, bA, bc⟩, ?_, ⟨⟨?_, ?_, ?_, ?_, ?_, ?_, ?_⟩, yo, yb⟩⟩
  · rw [← Array.toArray_toList (xs := cs), hcs]; rfl
  · exact bounds_u8 w0
  · have h16 := bounds_u16 w1; have h17 : id < 65536 := by omega
    exact ⟨h16.1, h17⟩
  · exact bounds_i64 w4
  · exact bounds_u8 w5
  · exact bounds_u8 w6
  · exact r7
  · exact r8
end
end Go.Proofs.Ytfkcejfjmfliaaa
