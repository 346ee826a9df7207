/-
  What an argument that is an IPv6 datagram is to the walks.
-/
import Derived.Test.YtndmmkadceobjaaRowKit
import Derived.Test.YtndmmkadceobjaaV6A
namespace Go.Proofs.Ytndmmkadceobjaa
open Go.ChangeShapes Go.WideShapes Go.ChangeAt Go.RowKit

section
variable {H : Type} {enc : TypeId × Value → H} {P : Program} {W : World} {base : Nat} {spare : Nat → Bool} {held : Bool}
theorem field_at6 {t : TypeId} {fs : Array Field} {fuel : Nat} {cs : List Value} {x : DataW H × List MemPlace} (ht : P.underlying t = some (.struct fs)) (h : DataW.trod enc P W base spare held fuel t cs = some x) :
    ∃ m, ∀ (i : Nat) (f : Field) (n : Nat), fs[i]? = some f → P.cellsOf f.type = n → ∃ y, DataW.trod enc P W base spare held m f.type ((cs.drop f.offset).take n) = some y := by
  obtain ⟨xs, m, _, _, _, hxl, hi⟩ := DataW.trod_struct ht h
  refine ⟨m, fun i f n hf hn => ?_⟩
  subst hn
  have hlt : i < xs.length := by have := (Array.getElem?_eq_some_iff.1 hf).1; omega
  exact ⟨xs[i], (hi i f hf).trans (List.getElem?_eq_getElem hlt)⟩
theorem struct_len6 {t : TypeId} {fs : Array Field} {fuel : Nat} {cs : List Value} {x : DataW H × List MemPlace} (ht : P.underlying t = some (.struct fs)) (h : DataW.trod enc P W base spare held fuel t cs = some x) : cs.length = P.cellsOf t := by
  obtain ⟨xs, m, _, _, hl, _, _⟩ := DataW.trod_struct ht h
  exact hl
end
theorem len10 {α : Type} {l : List α} (h : l.length = 10) : ∃ a0 a1 a2 a3 a4 a5 a6 a7 a8 a9, l = [a0, a1, a2, a3, a4, a5, a6, a7, a8, a9] := by
  match l, h with
  | [a0, a1, a2, a3, a4, a5, a6, a7, a8, a9], _ => exact ⟨a0, a1, a2, a3, a4, a5, a6, a7, a8, a9, rfl⟩
theorem len42 {α : Type} {l : List α} (h : l.length = 42) : ∃ c0 c1 c2 c3 c4 c5 c6 c7 c8 c9 c10 c11 c12 c13 c14 c15 c16 c17 c18 c19 c20 c21 c22 c23 c24 c25 c26 c27 c28 c29 c30 c31 c32 c33 c34 c35 c36 c37 c38 c39 c40 c41, l = [c0, c1, c2, c3, c4, c5, c6, c7, c8, c9, c10, c11, c12, c13, c14, c15, c16, c17, c18, c19, c20, c21, c22, c23, c24, c25, c26, c27, c28, c29, c30, c31, c32, c33, c34, c35, c36, c37, c38, c39, c40, c41] := by
  have e : l = l.take 16 ++ ((l.drop 16).take 16 ++ (l.drop 32)) := by rw [show l.drop 32 = (l.drop 16).drop 16 from by rw [List.drop_drop], List.take_append_drop, List.take_append_drop]
  obtain ⟨c0, c1, c2, c3, c4, c5, c6, c7, c8, c9, c10, c11, c12, c13, c14, c15, h1⟩ := len16 (l := l.take 16) (by rw [List.length_take]; omega)
  obtain ⟨c16, c17, c18, c19, c20, c21, c22, c23, c24, c25, c26, c27, c28, c29, c30, c31, h2⟩ := len16 (l := (l.drop 16).take 16) (by rw [List.length_take, List.length_drop]; omega)
  obtain ⟨c32, c33, c34, c35, c36, c37, c38, c39, c40, c41, h3⟩ := len10 (l := l.drop 32) (by rw [List.length_drop]; omega)
  rw [h1, h2, h3] at e
  exact ⟨c0, c1, c2, c3, c4, c5, c6, c7, c8, c9, c10, c11, c12, c13, c14, c15, c16, c17, c18, c19, c20, c21, c22, c23, c24, c25, c26, c27, c28, c29, c30, c31, c32, c33, c34, c35, c36, c37, c38, c39, c40, c41, e⟩
theorem one_eq6 {a b : Value} (h : [a] = [b]) : a = b := by injection h

section
variable {H : Type} {enc : TypeId × Value → H} {W : World} {base : Nat} {spare : Nat → Bool} {held : Bool}
theorem cell_head {fuel : Nat} {cs : List Value} {x : DataW H × List MemPlace} (hf : DataW.trod enc Try.prog W base spare held fuel 54 cs = some x) :
    ∃ p : Kd, cs = [.int .u8 p.1, kdV p] ∧ 0 ≤ p.1 ∧ p.1 ≤ 255 ∧ By W.heap.size W p.2.1 p.2.2.2.length p.2.2.1 p.2.2.2 := by
  have ht := Try.underlying54
  have hlen : cs.length = 2 := (struct_len6 ht hf).trans (by kernel_rfl)
  have hk : ∃ m, _ := field_at6 ht hf
  obtain ⟨m, g⟩ := hk
  obtain ⟨c0, c1, hcs⟩ : ∃ a b, cs = [a, b] := by
    match cs, hlen with
    | [a, b], _ => exact ⟨a, b, rfl⟩
  have g : ∀ (i : Nat) (f : Field) (n : Nat), _ → _ → ∃ y, DataW.trod enc Try.prog W base spare held m f.type (([c0, c1].drop f.offset).take n) = some y := hcs ▸ g
  obtain ⟨y0, e0⟩ := g 0 _ 1 rfl (by kernel_rfl)
  obtain ⟨y1, e1⟩ := g 1 _ 1 rfl (by kernel_rfl)
  obtain ⟨k, q0, _, w0⟩ := DataW.trod_int Try.underlying5 e0
  have k0 : c0 = .int .u8 k := one_eq6 q0
  obtain ⟨lA, lc, l, q1, z1⟩ := cell_bytes Try.underlying26 Try.underlying5 (by kernel_rfl) e1
  have k1 : c1 = .slice lA l.length lc := one_eq6 q1
  subst k0 k1
  have b0 := bounds_u8 w0
  exact ⟨(k, lA, lc, l), hcs, by omega, by omega, z1⟩
theorem cell_heads {fuel : Nat} {cs : List Value} {x : DataW H × List MemPlace} (hf : DataW.trod enc Try.prog W base spare held fuel 25 cs = some x) :
    ∃ A c ps, cs = [.slice A (List.length ps) c] ∧ Kds W.heap.size W A ps.length c ps := by
  have ht := Try.underlying25
  have hce : (Try.prog).cellsOf 54 = 2 := by kernel_rfl
  rcases Go.Deep.open_slice ht hf with ⟨hcs, _⟩ | ⟨a', len, cap, m, n, D, Pl, hcs, _, hl, hm, hmm, _, hi⟩
  · subst hcs
    exact ⟨none, 0, [], rfl, Kds.nil _ _⟩
  · subst hcs
    have hml : len ≤ m := by rw [hmm]; split <;> omega
    rw [hce] at hi
    have hel : ∀ i : Nat, ∃ x : Kd, i < m → W.cell? (a'.add (i * 2)) = some (.int .u8 x.1) ∧ W.cell? ((a'.add (i * 2)).add 1) = some (kdV x) ∧ 0 ≤ x.1 ∧ x.1 ≤ 255 ∧ By W.heap.size W x.2.1 x.2.2.2.length x.2.2.1 x.2.2.2 := fun i => by
      by_cases hlt : i < m
      · obtain ⟨cs', hcs', htr⟩ := hi i hlt
        obtain ⟨_, hlen, hat⟩ := World.cells?_some hcs'
        obtain ⟨x, rfl, r0, r1, hy⟩ := cell_head htr
        refine ⟨x, fun _ => ⟨?_, ?_, r0, r1, hy⟩⟩
        · have := hat 0 (by omega)
          simpa [Addr.add] using this
        · have := hat 1 (by omega)
          simpa [Addr.add] using this
      · exact ⟨(0, none, 0, []), fun h => absurd h hlt⟩
    let f : Nat → Kd := fun i => Classical.choose (hel i)
    have hf' : ∀ i, i < m → W.cell? (a'.add (i * 2)) = some (.int .u8 (f i).1) ∧ W.cell? ((a'.add (i * 2)).add 1) = some (kdV (f i)) ∧ 0 ≤ (f i).1 ∧ (f i).1 ≤ 255 ∧ By W.heap.size W (f i).2.1 (f i).2.2.2.length (f i).2.2.1 (f i).2.2.2 := fun i => Classical.choose_spec (hel i)
    have hlen : ((List.range len).map f).length = len := by simp
    refine ⟨some a', cap, (List.range len).map f, by rw [hlen], ?_⟩
    rw [hlen]
    refine ⟨hlen, hl, hm, fun k x hk => ?_⟩
    have hkl : k < len := by have := (List.getElem?_eq_some_iff.1 hk).1; omega
    obtain rfl : f k = x := by simpa [hkl] using hk
    obtain ⟨hck, hck1, hr0, hr1, hyk⟩ := hf' k (by omega)
    obtain ⟨b, off, spot⟩ := a'
    have hspot : spot = none := by
      have := World.cell?_spot (hf' 0 (by omega)).1
      simpa [Addr.add] using this
    subst hspot
    rw [add_plain] at hck hck1
    rw [add_plain] at hck1
    exact ⟨b, off, rfl, World.block_lt_of_cell? W _ hck, hck, hck1, hr0, hr1, hyk⟩
theorem open_v6 {v : Value} {d : DataW H} {p : List MemPlace} {r : Reach} {b0 : Nat} (hv : Value.okWide Try.prog W r b0 28 v) (h : DataW.Trod enc Try.prog W base spare held 28 v d p) :
    ∃ D w6, v = .agg (D6.cells D w6) ∧ Rd6 W.heap.size W D w6 := by
  have ht := Try.underlying28
  simp only [Value.okWide, ht] at hv
  obtain ⟨cs, rfl, _⟩ := hv
  obtain ⟨fuel, hf⟩ := h
  have hlen : cs.toList.length = 42 := (struct_len6 ht hf).trans (by kernel_rfl)
  have hk : ∃ m, _ := field_at6 ht hf
  obtain ⟨m, g⟩ := hk
  obtain ⟨c0, c1, c2, c3, c4, c5, c6, c7, c8, c9, c10, c11, c12, c13, c14, c15, c16, c17, c18, c19, c20, c21, c22, c23, c24, c25, c26, c27, c28, c29, c30, c31, c32, c33, c34, c35, c36, c37, c38, c39, c40, c41, hcs⟩ := len42 hlen
  have g : ∀ (i : Nat) (f : Field) (n : Nat), _ → _ → ∃ y, DataW.trod enc Try.prog W base spare held m f.type (([c0, c1, c2, c3, c4, c5, c6, c7, c8, c9, c10, c11, c12, c13, c14, c15, c16, c17, c18, c19, c20, c21, c22, c23, c24, c25, c26, c27, c28, c29, c30, c31, c32, c33, c34, c35, c36, c37, c38, c39, c40, c41].drop f.offset).take n) = some y := hcs ▸ g
  obtain ⟨y0, e0⟩ := g 0 _ 1 rfl (by kernel_rfl)
  obtain ⟨y1, e1⟩ := g 1 _ 1 rfl (by kernel_rfl)
  obtain ⟨y2, e2⟩ := g 2 _ 1 rfl (by kernel_rfl)
  obtain ⟨y3, e3⟩ := g 3 _ 16 rfl (by kernel_rfl)
  obtain ⟨y4, e4⟩ := g 4 _ 16 rfl (by kernel_rfl)
  obtain ⟨y5, e5⟩ := g 5 _ 1 rfl (by kernel_rfl)
  obtain ⟨y6, e6⟩ := g 6 _ 1 rfl (by kernel_rfl)
  obtain ⟨y7, e7⟩ := g 7 _ 1 rfl (by kernel_rfl)
  obtain ⟨y8, e8⟩ := g 8 _ 1 rfl (by kernel_rfl)
  obtain ⟨y9, e9⟩ := g 9 _ 1 rfl (by kernel_rfl)
  obtain ⟨y10, e10⟩ := g 10 _ 1 rfl (by kernel_rfl)
  obtain ⟨y11, e11⟩ := g 11 _ 1 rfl (by kernel_rfl)
  obtain ⟨cls, q0, _, w0⟩ := DataW.trod_int Try.underlying5 e0
  obtain ⟨lab, q1, _, w1⟩ := DataW.trod_int Try.underlying22 e1
  obtain ⟨hop, q2, _, w2⟩ := DataW.trod_int Try.underlying5 e2
  obtain ⟨src, q3, n3, r3⟩ := trod_u8s Try.underlying24 Try.underlying5 (by kernel_rfl) (by kernel_rfl) e3
  obtain ⟨dst, q4, n4, r4⟩ := trod_u8s Try.underlying24 Try.underlying5 (by kernel_rfl) (by kernel_rfl) e4
  obtain ⟨hA, hc, ps, q5, yh⟩ := cell_heads e5
  obtain ⟨frag, q6, _⟩ := DataW.trod_bool Try.underlying4 e6
  obtain ⟨id, q7, _, w7⟩ := DataW.trod_int Try.underlying22 e7
  obtain ⟨off, q8, _, w8⟩ := DataW.trod_int Try.underlying3 e8
  obtain ⟨more, q9, _⟩ := DataW.trod_bool Try.underlying4 e9
  obtain ⟨pro, q10, _, w10⟩ := DataW.trod_int Try.underlying5 e10
  obtain ⟨bA, bc, bl, q11, yb⟩ := cell_bytes Try.underlying26 Try.underlying5 (by kernel_rfl) e11
  obtain ⟨s0, s1, s2, s3, s4, s5, s6, s7, s8, s9, s10, s11, s12, s13, s14, s15, rfl⟩ := len16 n3
  obtain ⟨t0, t1, t2, t3, t4, t5, t6, t7, t8, t9, t10, t11, t12, t13, t14, t15, rfl⟩ := len16 n4
  have k0 : c0 = .int .u8 cls := one_eq6 q0
  have k1 : c1 = .int .u32 lab := one_eq6 q1
  have k2 : c2 = .int .u8 hop := one_eq6 q2
  have q3 : [c3, c4, c5, c6, c7, c8, c9, c10, c11, c12, c13, c14, c15, c16, c17, c18] = [.int .u8 s0, .int .u8 s1, .int .u8 s2, .int .u8 s3, .int .u8 s4, .int .u8 s5, .int .u8 s6, .int .u8 s7, .int .u8 s8, .int .u8 s9, .int .u8 s10, .int .u8 s11, .int .u8 s12, .int .u8 s13, .int .u8 s14, .int .u8 s15] := q3
  simp only [List.cons.injEq, and_true] at q3
  obtain ⟨rfl, rfl, rfl, rfl, rfl, rfl, rfl, rfl, rfl, rfl, rfl, rfl, rfl, rfl, rfl, rfl⟩ := q3
  have q4 : [c19, c20, c21, c22, c23, c24, c25, c26, c27, c28, c29, c30, c31, c32, c33, c34] = [.int .u8 t0, .int .u8 t1, .int .u8 t2, .int .u8 t3, .int .u8 t4, .int .u8 t5, .int .u8 t6, .int .u8 t7, .int .u8 t8, .int .u8 t9, .int .u8 t10, .int .u8 t11, .int .u8 t12, .int .u8 t13, .int .u8 t14, .int .u8 t15] := q4
  simp only [List.cons.injEq, and_true] at q4
  obtain ⟨rfl, rfl, rfl, rfl, rfl, rfl, rfl, rfl, rfl, rfl, rfl, rfl, rfl, rfl, rfl, rfl⟩ := q4
  have k5 : c35 = .slice hA ps.length hc := one_eq6 q5
  have k6 : c36 = .bool frag := one_eq6 q6
  have k7 : c37 = .int .u32 id := one_eq6 q7
  have k8 : c38 = .int .i64 off := one_eq6 q8
  have k9 : c39 = .bool more := one_eq6 q9
  have k10 : c40 = .int .u8 pro := one_eq6 q10
  have k11 : c41 = .slice bA bl.length bc := one_eq6 q11
  subst k0 k1 k2 k5 k6 k7 k8 k9 k10 k11
  have hkl : (kdL ps).length = ps.length := kdL_len ps
  refine ⟨⟨cls, lab, hop, [s0, s1, s2, s3, s4, s5, s6, s7, s8, s9, s10, s11, s12, s13, s14, s15], [t0, t1, t2, t3, t4, t5, t6, t7, t8, t9, t10, t11, t12, t13, t14, t15], kdL ps, frag, id, off, more, pro, bl⟩, ⟨hA, hc, ps, bA, bc⟩, ?_, ⟨⟨?_, ?_, ?_, rfl, ?_, rfl, ?_, ?_, ?_, ?_⟩, rfl, ?_, yb⟩⟩
  · rw [← Array.toArray_toList (xs := cs), hcs]
    simp only [D6.cells, hkl]
    rfl
  · exact bounds_u8 w0
  · exact ⟨(bounds_u32 w1).1, Int.lt_of_le_of_lt (bounds_u32 w1).2 (by decide)⟩
  · exact bounds_u8 w2
  · exact r3
  · exact r4
  · exact ⟨(bounds_u32 w7).1, Int.lt_of_le_of_lt (bounds_u32 w7).2 (by decide)⟩
  · exact bounds_i64 w8
  · exact bounds_u8 w10
  · show Kds W.heap.size W hA (kdL ps).length hc ps
    rw [hkl]
    exact yh
end
end Go.Proofs.Ytndmmkadceobjaa
