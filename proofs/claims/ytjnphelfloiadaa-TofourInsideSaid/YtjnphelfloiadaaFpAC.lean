/-
  Lemmas and walks for the row of TofourPackets,TofourMessages,TofourInside (part 3 of 42).
-/
import Derived.Test.YtjnphelfloiadaaFpAB
set_option linter.unusedVariables false
set_option linter.unusedSimpArgs false
namespace Go.Proofs.Ytjnphelfloiadaa
open Go.ChangeShapes Go.WideShapes Go.ChangeAt Go.RowKit

section
variable {H : Type} {enc : TypeId × Value → H} {P : Program} {W : World} {base : Nat} {spare : Nat → Bool} {held : Bool}
theorem field_at6 {t : TypeId} {fs : Array Field} {fuel : Nat} {cs : List Value} {x : DataW H × List MemPlace} (ht : P.underlying t = some (.struct fs)) (h : DataW.trod enc P W base spare held fuel t cs = some x) :
  ∃ m, ∀ (i : Nat) (f : Field) (n : Nat), fs[i]? = some f → P.cellsOf f.type = n → ∃ y, DataW.trod enc P W base spare held m f.type ((cs.drop f.offset).take n) = some y := by
 obtain ⟨xs, m, _, _, _, hxl, hi⟩ := DataW.trod_struct ht h
 refine ⟨m, fun i f n hf hn => ?_⟩
 subst hn
 have hlt : i < xs.length := by have := (Array.getElem?_eq_some_iff.1 hf).1; omega
 exact ⟨xs[i], (hi i f hf).trans (List.getElem?_eq_getElem hlt)⟩
theorem struct_len6 {t : TypeId} {fs : Array Field} {fuel : Nat} {cs : List Value} {x : DataW H × List MemPlace} (ht : P.underlying t = some (.struct fs)) (h : DataW.trod enc P W base spare held fuel t cs = some x) : cs.length = P.cellsOf t := by
 obtain ⟨xs, m, _, _, hl, _, _⟩ := DataW.trod_struct ht h
 exact hl
end
theorem len10 {α : Type} {l : List α} (h : l.length = 10) : ∃ a0 a1 a2 a3 a4 a5 a6 a7 a8 a9, l = [a0, a1, a2, a3, a4, a5, a6, a7, a8, a9] := by
 match l, h with
 | [a0, a1, a2, a3, a4, a5, a6, a7, a8, a9], _ => exact ⟨a0, a1, a2, a3, a4, a5, a6, a7, a8, a9, rfl⟩
theorem len42 {α : Type} {l : List α} (h : l.length = 42) : ∃ c0 c1 c2 c3 c4 c5 c6 c7 c8 c9 c10 c11 c12 c13 c14 c15 c16 c17 c18 c19 c20 c21 c22 c23 c24 c25 c26 c27 c28 c29 c30 c31 c32 c33 c34 c35 c36 c37 c38 c39 c40 c41, l = [c0, c1, c2, c3, c4, c5, c6, c7, c8, c9, c10, c11, c12, c13, c14, c15, c16, c17, c18, c19, c20, c21, c22, c23, c24, c25, c26, c27, c28, c29, c30, c31, c32, c33, c34, c35, c36, c37, c38, c39, c40, c41] := by
 have e : l = l.take 16 ++ ((l.drop 16).take 16 ++ (l.drop 32)) := by rw [show l.drop 32 = (l.drop 16).drop 16 from by rw [List.drop_drop], List.take_append_drop, List.take_append_drop]
 obtain ⟨c0, c1, c2, c3, c4, c5, c6, c7, c8, c9, c10, c11, c12, c13, c14, c15, h1⟩ := len16 (l := l.take 16) (by rw [List.length_take]; omega)
 obtain ⟨c16, c17, c18, c19, c20, c21, c22, c23, c24, c25, c26, c27, c28, c29, c30, c31, h2⟩ := len16 (l := (l.drop 16).take 16) (by rw [List.length_take, List.length_drop]; omega)
 obtain ⟨c32, c33, c34, c35, c36, c37, c38, c39, c40, c41, h3⟩ := len10 (l := l.drop 32) (by rw [List.length_drop]; omega)
 rw [h1, h2, h3] at e
 exact ⟨c0, c1, c2, c3, c4, c5, c6, c7, c8, c9, c10, c11, c12, c13, c14, c15, c16, c17, c18, c19, c20, c21, c22, c23, c24, c25, c26, c27, c28, c29, c30, c31, c32, c33, c34, c35, c36, c37, c38, c39, c40, c41, e⟩
theorem one_eq6 {a b : Value} (h : [a] = [b]) : a = b := by injection h

section
variable {H : Type} {enc : TypeId × Value → H} {W : World} {base : Nat} {spare : Nat → Bool} {held : Bool}
theorem cell_head {fuel : Nat} {cs : List Value} {x : DataW H × List MemPlace} (hf : DataW.trod enc Try.prog W base spare held fuel 108 cs = some x) :
  ∃ p : Kd, cs = [.int .u8 p.1, kdV p] ∧ 0 ≤ p.1 ∧ p.1 ≤ 255 ∧ By W.heap.size W p.2.1 p.2.2.2.length p.2.2.1 p.2.2.2 := by
 have ht := Try.underlying108
 have hlen : cs.length = 2 := (struct_len6 ht hf).trans (by kernel_rfl)
 have hk : ∃ m, _ := field_at6 ht hf
 obtain ⟨m, g⟩ := hk
 obtain ⟨c0, c1, hcs⟩ : ∃ a b, cs = [a, b] := by
  match cs, hlen with
  | [a, b], _ => exact ⟨a, b, rfl⟩
 have g : ∀ (i : Nat) (f : Field) (n : Nat), _ → _ → ∃ y, DataW.trod enc Try.prog W base spare held m f.type (([c0, c1].drop f.offset).take n) = some y := hcs ▸ g
 obtain ⟨y0, e0⟩ := g 0 _ 1 rfl (by kernel_rfl)
 obtain ⟨y1, e1⟩ := g 1 _ 1 rfl (by kernel_rfl)
 obtain ⟨k, q0, _, w0⟩ := DataW.trod_int Try.underlying5 e0
 have k0 : c0 = .int .u8 k := one_eq6 q0
 obtain ⟨lA, lc, l, q1, z1⟩ := cell_bytes Try.underlying26 Try.underlying5 (by kernel_rfl) e1
 have k1 : c1 = .slice lA l.length lc := one_eq6 q1
 subst k0 k1
 have b0 := bounds_u8 w0
 exact ⟨(k, lA, lc, l), hcs, by omega, by omega, z1⟩
theorem cell_heads {fuel : Nat} {cs : List Value} {x : DataW H × List MemPlace} (hf : DataW.trod enc Try.prog W base spare held fuel 25 cs = some x) :
  ∃ A c ps, cs = [.slice A (List.length ps) c] ∧ Kds W.heap.size W A ps.length c ps := by
 have ht := Try.underlying25
 have hce : (Try.prog).cellsOf 108 = 2 := by kernel_rfl
 rcases Go.Deep.open_slice ht hf with ⟨hcs, _⟩ | ⟨a', len, cap, m, n, D, Pl, hcs, _, hl, hm, hmm, _, hi⟩
 ·subst hcs
  exact ⟨none, 0, [], rfl, Kds.nil _ _⟩
 ·subst hcs
  have hml : len ≤ m := by rw [hmm]; split <;> omega
  rw [hce] at hi
  have hel : ∀ i : Nat, ∃ x : Kd, i < m → W.cell? (a'.add (i * 2)) = some (.int .u8 x.1) ∧ W.cell? ((a'.add (i * 2)).add 1) = some (kdV x) ∧ 0 ≤ x.1 ∧ x.1 ≤ 255 ∧ By W.heap.size W x.2.1 x.2.2.2.length x.2.2.1 x.2.2.2 := fun i => by
   by_cases hlt : i < m
   ·obtain ⟨cs', hcs', htr⟩ := hi i hlt
    obtain ⟨_, hlen, hat⟩ := World.cells?_some hcs'
    obtain ⟨x, rfl, r0, r1, hy⟩ := cell_head htr
    refine ⟨x, fun _ => ⟨?_, ?_, r0, r1, hy⟩⟩
    ·have := hat 0 (by omega)
     simpa [Addr.add] using this
    ·have := hat 1 (by omega)
     simpa [Addr.add] using this
   ·exact ⟨(0, none, 0, []), fun h => absurd h hlt⟩
  let f : Nat → Kd := fun i => Classical.choose (hel i)
  have hf' : ∀ i, i < m → W.cell? (a'.add (i * 2)) = some (.int .u8 (f i).1) ∧ W.cell? ((a'.add (i * 2)).add 1) = some (kdV (f i)) ∧ 0 ≤ (f i).1 ∧ (f i).1 ≤ 255 ∧ By W.heap.size W (f i).2.1 (f i).2.2.2.length (f i).2.2.1 (f i).2.2.2 := fun i => Classical.choose_spec (hel i)
  have hlen : ((List.range len).map f).length = len := by simp
  refine ⟨some a', cap, (List.range len).map f, by rw [hlen], ?_⟩
  rw [hlen]
  refine ⟨hlen, hl, hm, fun k x hk => ?_⟩
  have hkl : k < len := by have := (List.getElem?_eq_some_iff.1 hk).1; omega
  obtain rfl : f k = x := by simpa [hkl] using hk
  obtain ⟨hck, hck1, hr0, hr1, hyk⟩ := hf' k (by omega)
  obtain ⟨b, off, spot⟩ := a'
  have hspot : spot = none := by
   have := World.cell?_spot (hf' 0 (by omega)).1
   simpa [Addr.add] using this
  subst hspot
  rw [add_plain] at hck hck1
  rw [add_plain] at hck1
  exact ⟨b, off, rfl, World.block_lt_of_cell? W _ hck, hck, hck1, hr0, hr1, hyk⟩
set_option maxRecDepth 100000 in
theorem open_v6 {v : Value} {d : DataW H} {p : List MemPlace} {r : Reach} {b0 : Nat} (hv : Value.okWide Try.prog W r b0 28 v) (h : DataW.Trod enc Try.prog W base spare held 28 v d p) :
  ∃ D w6, v = .agg (D6.cells D w6) ∧ Rd6 W.heap.size W D w6 := by
 have ht := Try.underlying28
 simp only [Value.okWide, ht] at hv
 obtain ⟨cs, rfl, _⟩ := hv
 obtain ⟨fuel, hf⟩ := h
 have hlen : cs.toList.length = 42 := (struct_len6 ht hf).trans (by kernel_rfl)
 have hk : ∃ m, _ := field_at6 ht hf
 obtain ⟨m, g⟩ := hk
 obtain ⟨c0, c1, c2, c3, c4, c5, c6, c7, c8, c9, c10, c11, c12, c13, c14, c15, c16, c17, c18, c19, c20, c21, c22, c23, c24, c25, c26, c27, c28, c29, c30, c31, c32, c33, c34, c35, c36, c37, c38, c39, c40, c41, hcs⟩ := len42 hlen
 have g : ∀ (i : Nat) (f : Field) (n : Nat), _ → _ → ∃ y, DataW.trod enc Try.prog W base spare held m f.type (([c0, c1, c2, c3, c4, c5, c6, c7, c8, c9, c10, c11, c12, c13, c14, c15, c16, c17, c18, c19, c20, c21, c22, c23, c24, c25, c26, c27, c28, c29, c30, c31, c32, c33, c34, c35, c36, c37, c38, c39, c40, c41].drop f.offset).take n) = some y := hcs ▸ g
 obtain ⟨y0, e0⟩ := g 0 _ 1 rfl (by kernel_rfl)
 obtain ⟨y1, e1⟩ := g 1 _ 1 rfl (by kernel_rfl)
 obtain ⟨y2, e2⟩ := g 2 _ 1 rfl (by kernel_rfl)
 obtain ⟨y3, e3⟩ := g 3 _ 16 rfl (by kernel_rfl)
 obtain ⟨y4, e4⟩ := g 4 _ 16 rfl (by kernel_rfl)
 obtain ⟨y5, e5⟩ := g 5 _ 1 rfl (by kernel_rfl)
 obtain ⟨y6, e6⟩ := g 6 _ 1 rfl (by kernel_rfl)
 obtain ⟨y7, e7⟩ := g 7 _ 1 rfl (by kernel_rfl)
 obtain ⟨y8, e8⟩ := g 8 _ 1 rfl (by kernel_rfl)
 obtain ⟨y9, e9⟩ := g 9 _ 1 rfl (by kernel_rfl)
 obtain ⟨y10, e10⟩ := g 10 _ 1 rfl (by kernel_rfl)
 obtain ⟨y11, e11⟩ := g 11 _ 1 rfl (by kernel_rfl)
 obtain ⟨cls, q0, _, w0⟩ := DataW.trod_int Try.underlying5 e0
 obtain ⟨lab, q1, _, w1⟩ := DataW.trod_int Try.underlying22 e1
 obtain ⟨hop, q2, _, w2⟩ := DataW.trod_int Try.underlying5 e2
 obtain ⟨src, q3, n3, r3⟩ := trod_u8s Try.underlying24 Try.underlying5 (by kernel_rfl) (by kernel_rfl) e3
 obtain ⟨dst, q4, n4, r4⟩ := trod_u8s Try.underlying24 Try.underlying5 (by kernel_rfl) (by kernel_rfl) e4
 obtain ⟨hA, hc, ps, q5, yh⟩ := cell_heads e5
 obtain ⟨frag, q6, _⟩ := DataW.trod_bool Try.underlying4 e6
 obtain ⟨id, q7, _, w7⟩ := DataW.trod_int Try.underlying22 e7
 obtain ⟨off, q8, _, w8⟩ := DataW.trod_int Try.underlying3 e8
 obtain ⟨more, q9, _⟩ := DataW.trod_bool Try.underlying4 e9
 obtain ⟨pro, q10, _, w10⟩ := DataW.trod_int Try.underlying5 e10
 obtain ⟨bA, bc, bl, q11, yb⟩ := cell_bytes Try.underlying26 Try.underlying5 (by kernel_rfl) e11
 obtain ⟨s0, s1, s2, s3, s4, s5, s6, s7, s8, s9, s10, s11, s12, s13, s14, s15, rfl⟩ := len16 n3
 obtain ⟨t0, t1, t2, t3, t4, t5, t6, t7, t8, t9, t10, t11, t12, t13, t14, t15, rfl⟩ := len16 n4
 have k0 : c0 = .int .u8 cls := one_eq6 q0
 have k1 : c1 = .int .u32 lab := one_eq6 q1
 have k2 : c2 = .int .u8 hop := one_eq6 q2
 have q3 : [c3, c4, c5, c6, c7, c8, c9, c10, c11, c12, c13, c14, c15, c16, c17, c18] = [.int .u8 s0, .int .u8 s1, .int .u8 s2, .int .u8 s3, .int .u8 s4, .int .u8 s5, .int .u8 s6, .int .u8 s7, .int .u8 s8, .int .u8 s9, .int .u8 s10, .int .u8 s11, .int .u8 s12, .int .u8 s13, .int .u8 s14, .int .u8 s15] := q3
 simp only [List.cons.injEq, and_true] at q3
 obtain ⟨rfl, rfl, rfl, rfl, rfl, rfl, rfl, rfl, rfl, rfl, rfl, rfl, rfl, rfl, rfl, rfl⟩ := q3
 have q4 : [c19, c20, c21, c22, c23, c24, c25, c26, c27, c28, c29, c30, c31, c32, c33, c34] = [.int .u8 t0, .int .u8 t1, .int .u8 t2, .int .u8 t3, .int .u8 t4, .int .u8 t5, .int .u8 t6, .int .u8 t7, .int .u8 t8, .int .u8 t9, .int .u8 t10, .int .u8 t11, .int .u8 t12, .int .u8 t13, .int .u8 t14, .int .u8 t15] := q4
 simp only [List.cons.injEq, and_true] at q4
 obtain ⟨rfl, rfl, rfl, rfl, rfl, rfl, rfl, rfl, rfl, rfl, rfl, rfl, rfl, rfl, rfl, rfl⟩ := q4
 have k5 : c35 = .slice hA ps.length hc := one_eq6 q5
 have k6 : c36 = .bool frag := one_eq6 q6
 have k7 : c37 = .int .u32 id := one_eq6 q7
 have k8 : c38 = .int .i64 off := one_eq6 q8
 have k9 : c39 = .bool more := one_eq6 q9
 have k10 : c40 = .int .u8 pro := one_eq6 q10
 have k11 : c41 = .slice bA bl.length bc := one_eq6 q11
 subst k0 k1 k2 k5 k6 k7 k8 k9 k10 k11
 have hkl : (kdL ps).length = ps.length := kdL_len ps
 refine ⟨⟨cls, lab, hop, [s0, s1, s2, s3, s4, s5, s6, s7, s8, s9, s10, s11, s12, s13, s14, s15], [t0, t1, t2, t3, t4, t5, t6, t7, t8, t9, t10, t11, t12, t13, t14, t15], kdL ps, frag, id, off, more, pro, bl⟩, ⟨hA, hc, ps, bA, bc⟩, ?_, ⟨⟨?_, ?_, ?_, rfl, ?_, rfl, ?_, ?_, ?_, ?_⟩, rfl, ?_, yb⟩⟩
 ·rw [← Array.toArray_toList (xs := cs), hcs]
  simp only [D6.cells, hkl]
  rfl
 ·exact bounds_u8 w0
 ·exact ⟨(bounds_u32 w1).1, Int.lt_of_le_of_lt (bounds_u32 w1).2 (by decide)⟩
 ·exact bounds_u8 w2
 ·exact r3
 ·exact r4
 ·exact ⟨(bounds_u32 w7).1, Int.lt_of_le_of_lt (bounds_u32 w7).2 (by decide)⟩
 ·exact bounds_i64 w8
 ·exact bounds_u8 w10
 ·show Kds W.heap.size W hA (kdL ps).length hc ps
  rw [hkl]
  exact yh
end
section
variable {H : Type} {enc : TypeId × Value → H} {P : Program} {W : World} {base : Nat} {spare : Nat → Bool} {held : Bool}
theorem field_at {t : TypeId} {fs : Array Field} {fuel : Nat} {cs : List Value} {x : DataW H × List MemPlace} (ht : P.underlying t = some (.struct fs)) (h : DataW.trod enc P W base spare held fuel t cs = some x) :
  ∃ m, ∀ (i : Nat) (f : Field) (n : Nat), fs[i]? = some f → P.cellsOf f.type = n → ∃ y, DataW.trod enc P W base spare held m f.type ((cs.drop f.offset).take n) = some y := by
 obtain ⟨xs, m, _, _, _, hxl, hi⟩ := DataW.trod_struct ht h
 refine ⟨m, fun i f n hf hn => ?_⟩
 subst hn
 have hlt : i < xs.length := by have := (Array.getElem?_eq_some_iff.1 hf).1; omega
 exact ⟨xs[i], (hi i f hf).trans (List.getElem?_eq_getElem hlt)⟩
theorem struct_len {t : TypeId} {fs : Array Field} {fuel : Nat} {cs : List Value} {x : DataW H × List MemPlace} (ht : P.underlying t = some (.struct fs)) (h : DataW.trod enc P W base spare held fuel t cs = some x) : cs.length = P.cellsOf t := by
 obtain ⟨xs, m, _, _, hl, _, _⟩ := DataW.trod_struct ht h
 exact hl
end
theorem one_eq {a b : Value} (h : [a] = [b]) : a = b := by injection h
end Go.Proofs.Ytjnphelfloiadaa
namespace Go.Proofs.Ytjnphelfloiadaa
open Go.RowKit

structure G6 where
 (err : Int) (pat : Nat) (hs : List (Int × List Int)) (frag : Bool) (id off : Int) (more : Bool) (pro : Int) (pos : Nat)
def bad6 (e : Int) (p : Nat) : G6 := ⟨e, p, [], false, 0, 0, false, 0, 0⟩
def g6len (l : List Int) (p : Nat) : Nat := (l.getD (p + 1) 0).toNat * 8
def go6 (l : List Int) : Nat → Nat → Int → List (Int × List Int) → G6
 | 0, p, _, _ => bad6 53 p
 | n + 1, p, k, hs =>
  if extra6 k = false ∧ k ≠ 44 then ⟨0, 0, hs, false, 0, 0, false, k, p⟩
  else if l.length < p + 8 then bad6 50 p
  else if k = 44 then ⟨0, 0, hs, true, l.getD (p + 4) 0 * 16777216 + l.getD (p + 5) 0 * 65536 + l.getD (p + 6) 0 * 256 + l.getD (p + 7) 0, l.getD (p + 2) 0 * 32 + l.getD (p + 3) 0 / 8, decide (l.getD (p + 3) 0 % 2 = 1), l.getD p 0, p + 8⟩
  else if l.length < p + 8 + g6len l p then bad6 50 p
  else if (k = 0 ∧ 0 < hs.length) ∨ hs.length = 8 then bad6 53 p
  else go6 l n (p + 8 + g6len l p) (l.getD p 0) (hs ++ [(k, (l.drop (p + 2)).take (6 + g6len l p))])
def said6 (l : List Int) : Int := l.getD 4 0 * 256 + l.getD 5 0
def g6 (whole : Bool) (l : List Int) : G6 :=
 if l.length < 40 then bad6 50 0
 else if l.getD 0 0 / 16 ≠ 6 then bad6 51 0
 else if said6 l < (l.length : Int) - 40 ∨ (whole = true ∧ (l.length : Int) - 40 < said6 l) then bad6 52 4
 else go6 l 9 40 (l.getD 6 0) []
def zero6 : D6 := ⟨0, 0, 0, [0, 0, 0, 0, 0, 0, 0, 0, 0, 0, 0, 0, 0, 0, 0, 0], [0, 0, 0, 0, 0, 0, 0, 0, 0, 0, 0, 0, 0, 0, 0, 0], [], false, 0, 0, false, 0, []⟩
def of6 (l : List Int) (g : G6) : D6 := ⟨l.getD 0 0 % 16 * 16 + l.getD 1 0 / 16, l.getD 1 0 % 16 * 65536 + l.getD 2 0 * 256 + l.getD 3 0, l.getD 7 0, (l.drop 8).take 16, (l.drop 24).take 16, g.hs, g.frag, g.id, g.off, g.more, g.pro, l.drop g.pos⟩
def got6 (whole : Bool) (l : List Int) : D6 := if (g6 whole l).err = 0 then of6 l (g6 whole l) else zero6

theorem getD_app {l m : List Int} {i : Nat} (h : i < l.length) : (l ++ m).getD i 0 = l.getD i 0 := by
 rw [List.getD_eq_getElem?_getD, List.getD_eq_getElem?_getD, List.getElem?_append_left h]
theorem getD_of_drop {l m : List Int} {p : Nat} (h : l.drop p = m) (i : Nat) : l.getD (p + i) 0 = m.getD i 0 := by
 rw [← h, List.getD_eq_getElem?_getD, List.getD_eq_getElem?_getD, List.getElem?_drop]
theorem getD_byte {l : List Int} (h : InB l) (i : Nat) : 0 ≤ l.getD i 0 ∧ l.getD i 0 ≤ 255 := by
 rw [List.getD_eq_getElem?_getD]
 by_cases hi : i < l.length
 ·rw [List.getElem?_eq_getElem hi]; exact h.get hi
 ·rw [List.getElem?_eq_none (by omega)]; decide

structure Gok (l : List Int) (p : Nat) (hs : List (Int × List Int)) (g : G6) : Prop where
 okh : okH 0 g.hs = true
 len : g.hs.length ≤ 8
 rng : InB l → ∀ x ∈ g.hs, 0 ≤ x.1 ∧ x.1 ≤ 255 ∧ InB x.2
 tail : InB l → if g.frag then 0 ≤ g.off ∧ g.off ≤ 8191 else g.id = 0 ∧ g.off = 0 ∧ g.more = false ∧ extra6 g.pro = false ∧ g.pro ≠ 44
 idr : InB l → 0 ≤ g.id ∧ g.id < 4294967296
 pro : 0 ≤ g.pro ∧ g.pro ≤ 255
 pos : g.pos + hsz hs = p + hsz g.hs + (if g.frag then 8 else 0)
 le : g.pos ≤ l.length
theorem okH_snoc : ∀ (i : Nat) (hs : List (Int × List Int)) (x : Int × List Int), okH i (hs ++ [x]) = (okH i hs && !badH (i + hs.length) x)
 | i, [], x => by simp [okH]
 | i, h :: t, x => by
  rw [List.cons_append]
  simp only [okH, okH_snoc (i + 1) t x, List.length_cons]
  rw [show i + 1 + t.length = i + (t.length + 1) from by omega, Bool.and_assoc]
theorem go6_ok (l : List Int) : ∀ (n p : Nat) (k : Int) (hs : List (Int × List Int)), okH 0 hs = true → hs.length ≤ 8 → n + hs.length = 9 → (InB l → ∀ x ∈ hs, 0 ≤ x.1 ∧ x.1 ≤ 255 ∧ InB x.2) → (InB l → 0 ≤ k ∧ k ≤ 255) → InB l → p ≤ l.length → (go6 l n p k hs).err = 0 → Gok l p hs (go6 l n p k hs)
 | 0, p, k, hs, _, _, _, _, _, _, _, he => by simp [go6, bad6] at he
 | n + 1, p, k, hs, ho, hl, hn, hr, hk, hB, hp, he => by
  have hkk := hk hB
  unfold go6 at he ⊢
  split at he
  ·rename_i h1
   rw [if_pos h1]
   exact ⟨ho, hl, hr, fun _ => ⟨rfl, rfl, rfl, h1.1, h1.2⟩, fun _ => by simp, hkk, by simp, hp⟩
  rename_i h1
  rw [if_neg h1]
  split at he
  ·simp [bad6] at he
  rename_i h2
  rw [if_neg h2]
  split at he
  ·rename_i h3
   rw [if_pos h3]
   have b0 := getD_byte hB p
   have b2 := getD_byte hB (p + 2)
   have b3 := getD_byte hB (p + 3)
   have b4 := getD_byte hB (p + 4)
   have b5 := getD_byte hB (p + 5)
   have b6 := getD_byte hB (p + 6)
   have b7 := getD_byte hB (p + 7)
   refine ⟨ho, hl, hr, fun _ => ?_, fun _ => ?_, b0, ?_, ?_⟩
   ·dsimp only
    rw [if_pos rfl]
    omega
   ·dsimp only
    omega
   ·dsimp only
    rw [if_pos rfl]
    omega
   ·dsimp only
    omega
  rename_i h3
  rw [if_neg h3]
  split at he
  ·simp [bad6] at he
  rename_i h4
  rw [if_neg h4]
  split at he
  ·simp [bad6] at he
  rename_i h5
  rw [if_neg h5]
  have hk2 : extra6 k = true := by
   cases hx : extra6 k
   ·exact absurd ⟨hx, h3⟩ h1
   ·rfl
  have b1 := getD_byte hB (p + 1)
  have hlen : ((l.drop (p + 2)).take (6 + g6len l p)).length = 6 + g6len l p := by rw [List.length_take, List.length_drop]; omega
  have hgl : g6len l p ≤ 2040 := by unfold g6len; omega
  have hg8 : g6len l p % 8 = 0 := by unfold g6len; omega
  have hb : badH (0 + hs.length) (k, (l.drop (p + 2)).take (6 + g6len l p)) = false := by
   unfold badH
   rw [hlen, hk2]
   simp only [Bool.not_true, Bool.false_or, Bool.or_eq_false_iff, Bool.and_eq_false_iff, decide_eq_false_iff_not]
   refine ⟨⟨?_, by omega⟩, by omega⟩
   by_cases hk0 : k = 0
   ·right; omega
   ·exact .inl hk0
  have hsnew : okH 0 (hs ++ [(k, (l.drop (p + 2)).take (6 + g6len l p))]) = true := by rw [okH_snoc, ho, hb]; rfl
  have hG := go6_ok l n (p + 8 + g6len l p) (l.getD p 0) (hs ++ [(k, (l.drop (p + 2)).take (6 + g6len l p))]) hsnew (by rw [List.length_append, List.length_singleton]; omega) (by rw [List.length_append, List.length_singleton]; omega)
   (fun hB x hx => by
    rcases List.mem_append.1 hx with hx | hx
    ·exact hr hB x hx
    ·rw [List.mem_singleton] at hx
     subst hx
     exact ⟨(hk hB).1, (hk hB).2, (hB.drop _).take _⟩) (fun hB => getD_byte hB p) hB (by omega) he
  have hps := hG.pos
  rw [hsz_append] at hps
  simp only [hsz, hlen] at hps
  exact ⟨hG.okh, hG.len, hG.rng, hG.tail, hG.idr, hG.pro, by omega, hG.le⟩

theorem g6_ok {whole : Bool} {l : List Int} (h : (g6 whole l).err = 0) : 40 ≤ l.length ∧ l.getD 0 0 / 16 = 6 ∧ (l.length : Int) - 40 ≤ said6 l ∧ (whole = true → (l.length : Int) - 40 = said6 l) ∧ g6 whole l = go6 l 9 40 (l.getD 6 0) [] := by
 have h0 := h
 unfold g6 at h
 split at h
 ·simp [bad6] at h
 split at h
 ·simp [bad6] at h
 split at h
 ·simp [bad6] at h
 rename_i h1 h2 h3
 refine ⟨by omega, Decidable.not_not.1 h2, by omega, fun hw => ?_, by unfold g6; rw [if_neg h1, if_neg h2, if_neg h3]⟩
 subst hw
 have : ¬ ((l.length : Int) - 40 < said6 l) := fun hn => h3 (.inr ⟨rfl, hn⟩)
 omega
theorem g6_gok {whole : Bool} {l : List Int} (hB : InB l) (h : (g6 whole l).err = 0) : Gok l 40 [] (g6 whole l) := by
 obtain ⟨h1, _, _, _, h5⟩ := g6_ok h
 rw [h5] at h ⊢
 exact go6_ok l 9 40 _ [] rfl (by decide) rfl (fun _ _ hx => by cases hx) (fun hB => getD_byte hB 6) hB h1 h
theorem zero6_ok : zero6.ok := ⟨by decide, by decide, by decide, rfl, by intro x hx; simp [zero6] at hx; omega, rfl, by intro x hx; simp [zero6] at hx; omega, by decide, by decide, by decide⟩
theorem of6_ok {whole : Bool} {l : List Int} (hB : InB l) (h : (g6 whole l).err = 0) : (of6 l (g6 whole l)).ok := by
 have hG := g6_gok hB h
 obtain ⟨h1, _⟩ := g6_ok h
 have b0 := getD_byte hB 0
 have b1 := getD_byte hB 1
 have b2 := getD_byte hB 2
 have b3 := getD_byte hB 3
 have b7 := getD_byte hB 7
 have ht := hG.tail hB
 refine ⟨?_, ?_, b7, ?_, (hB.drop _).take _, ?_, (hB.drop _).take _, hG.idr hB, ?_, hG.pro⟩
 ·simp only [of6]; omega
 ·simp only [of6]; omega
 ·simp only [of6, List.length_take, List.length_drop]; omega
 ·simp only [of6, List.length_take, List.length_drop]; omega
 ·simp only [of6]
  split at ht <;> omega
theorem fb_get {d : D6} (hd : d.ok) (hf : d.frag = true) (ht : d.tail = true) (r : List Int) :
  (d.fb ++ r).getD 4 0 * 16777216 + (d.fb ++ r).getD 5 0 * 65536 + (d.fb ++ r).getD 6 0 * 256 + (d.fb ++ r).getD 7 0 = d.id ∧ (d.fb ++ r).getD 2 0 * 32 + (d.fb ++ r).getD 3 0 / 8 = d.off ∧ decide ((d.fb ++ r).getD 3 0 % 2 = 1) = d.more ∧ (d.fb ++ r).getD 0 0 = d.pro := by
 have hid := hd.id
 simp only [D6.tail, hf, if_true, decide_eq_true_eq] at ht
 have e : d.fb = [d.pro, 0, d.off / 32, d.off % 32 * 8 + (if d.more then 1 else 0), d.id / 16777216, d.id / 65536 % 256, d.id / 256 % 256, d.id % 256] := by unfold D6.fb; rw [if_pos hf]
 rw [e]
 simp only [List.cons_append, List.nil_append, List.getD_cons_succ, List.getD_cons_zero]
 refine ⟨by omega, ?_, ?_, trivial⟩
 ·split <;> omega
 ·cases hm : d.more
  ·simp; omega
  ·simp; omega
theorem go6_back {d : D6} (hd : d.ok) (ht : d.tail = true) (l r : List Int) : ∀ (t : List (Int × List Int)) (n p : Nat) (acc : List (Int × List Int)), l.drop p = hb d.last t ++ (d.fb ++ r) → p ≤ l.length → okH acc.length t = true → acc.length + t.length ≤ 8 → n + acc.length = 9 →
  go6 l n p (nxt d.last t) acc = ⟨0, 0, acc ++ t, d.frag, d.id, d.off, d.more, d.pro, p + hsz t + d.fb.length⟩
 | [], n, p, acc, hl, hp, _, hle, hn => by
  obtain ⟨m, rfl⟩ : ∃ m, n = m + 1 := ⟨n - 1, by simp at hle; omega⟩
  have hll : l.length = p + (d.fb.length + r.length) := by
   have := congrArg List.length hl
   simp only [List.length_drop, hb, List.nil_append, List.length_append] at this
   omega
  cases hf : d.frag with
  | false =>
   have ht2 := ht
   simp only [D6.tail, hf, Bool.false_eq_true, if_false, decide_eq_true_eq] at ht2
   obtain ⟨h1, h2, h3, h4, h5⟩ := ht2
   have hlast : nxt d.last [] = d.pro := by simp [nxt, D6.last, hf]
   rw [hlast]
   unfold go6
   rw [if_pos ⟨h4, h5⟩, h1, h2, h3, d.fb_len, hf]
   simp [hsz]
  | true =>
   have hfl : d.fb.length = 8 := by rw [d.fb_len, hf]; rfl
   have hlast : nxt d.last [] = 44 := by simp [nxt, D6.last, hf]
   obtain ⟨f1, f2, f3, f4⟩ := fb_get hd hf ht r
   have hl2 : l.drop p = d.fb ++ r := by simpa [hb] using hl
   have hg := getD_of_drop hl2
   have hg0 : l.getD p 0 = _ := hg 0
   rw [hlast]
   unfold go6
   rw [if_neg (by simp), if_neg (by omega), if_pos rfl, hg 2, hg 3, hg 4, hg 5, hg 6, hg 7, hg0, f1, f2, f3, f4, hfl]
   simp [hsz]
 | x :: t, n, p, acc, hl, hp, ho, hle, hn => by
  rw [List.length_cons] at hle
  obtain ⟨m, rfl⟩ : ∃ m, n = m + 1 := ⟨n - 1, by omega⟩
  simp only [okH, Bool.and_eq_true, Bool.not_eq_true'] at ho
  obtain ⟨hb1, ho2⟩ := ho
  obtain ⟨q1, q2, q3, q4⟩ := badH_false hb1
  have hll := congrArg List.length hl
  simp only [List.length_drop, hb, List.cons_append, List.length_append, List.length_cons] at hll
  have hg := getD_of_drop hl
  have hg0 : l.getD p 0 = nxt d.last t := (hg 0).trans (by simp [hb])
  have hg1 : l.getD (p + 1) 0 = ((x.2.length : Int) + 2) / 8 - 1 := (hg 1).trans (by simp [hb])
  have hlen : g6len l p = x.2.length - 6 := by unfold g6len; rw [hg1]; omega
  have hx44 : x.1 ≠ 44 := by omega
  have hex : extra6 x.1 = true := by simp only [extra6, decide_eq_true_eq]; exact q1
  have hbody : (l.drop (p + 2)).take (6 + g6len l p) = x.2 := by
   rw [← List.drop_drop, hl, hlen]
   simp only [hb, List.cons_append, List.drop_succ_cons, List.drop_zero, List.append_assoc]
   rw [show 6 + (x.2.length - 6) = x.2.length from by omega, List.take_append_of_le_length (Nat.le_refl _), List.take_length]
  have hdrop : l.drop (p + 8 + g6len l p) = hb d.last t ++ (d.fb ++ r) := by
   rw [show p + 8 + g6len l p = p + (2 + x.2.length) from by omega, ← List.drop_drop, hl]
   rw [show 2 + x.2.length = x.2.length + 1 + 1 from by omega]
   simp only [hb, List.cons_append, List.drop_succ_cons, List.append_assoc]
   rw [List.drop_append_of_le_length (Nat.le_refl _), List.drop_length, List.nil_append]
  show go6 l (m + 1) p x.1 acc = _
  unfold go6
  rw [if_neg (by rw [hex]; simp), if_neg (by omega), if_neg hx44, if_neg (by omega), if_neg (by
   rintro (⟨h1, h2⟩ | h1)
   ·have := q2 h1; omega
   ·omega), hbody, hg0]
  have ih := go6_back hd ht l r t m (p + 8 + g6len l p) (acc ++ [(x.1, x.2)]) hdrop (by omega) (by rw [List.length_append, List.length_singleton]; exact ho2) (by rw [List.length_append, List.length_singleton]; omega) (by rw [List.length_append, List.length_singleton]; omega)
  rw [ih, hlen]
  simp only [List.append_assoc, List.singleton_append, hsz]
  congr 1
  omega

theorem D6.first_get (d : D6) (r : List Int) {i : Nat} (h : i < 8) : (d.pre ++ r).getD i 0 = d.first.getD i 0 := by
 unfold D6.pre
 rw [List.append_assoc, List.append_assoc]
 exact getD_app (l := d.first) h
theorem D6.src_drop (d : D6) (hd : d.ok) (r : List Int) : ((d.pre ++ r).drop 8).take 16 = d.src ∧ ((d.pre ++ r).drop 24).take 16 = d.dst := by
 have hf : d.first.length = 8 := rfl
 have hs := hd.srcL
 have ht := hd.dstL
 unfold D6.pre
 constructor
 ·rw [List.append_assoc, List.append_assoc, List.drop_append_of_le_length (by omega), List.drop_of_length_le (by omega), List.nil_append, List.take_append_of_le_length (by omega), List.take_of_length_le (by omega)]
 ·rw [List.append_assoc, List.drop_append_of_le_length (by rw [List.length_append]; omega), List.drop_of_length_le (by rw [List.length_append]; omega), List.nil_append, List.take_append_of_le_length (by omega), List.take_of_length_le (by omega)]
theorem D6.head_of (d : D6) (hd : d.ok) (hc : d.check = 0) (b : List Int) (whole : Bool) (hb1 : b.length ≤ d.bl.length) (hb2 : whole = true → b.length = d.bl.length) :
  (g6 whole (d.pre ++ (hb d.last d.hs ++ (d.fb ++ b)))).err = 0 ∧ got6 whole (d.pre ++ (hb d.last d.hs ++ (d.fb ++ b))) = { d with bl := b } := by
 obtain ⟨hr, hle⟩ := D6.ok_of_check hc
 obtain ⟨r1, r2, r3, r4⟩ := D6.right_true hr
 obtain ⟨hle2, ha2, ha3⟩ := D6.ahead_le hr
 have hpl := d.pre_len hd
 have hl : (d.pre ++ (hb d.last d.hs ++ (d.fb ++ b))).length = d.ahead + b.length := by
  simp only [List.length_append, hpl, hb_len, d.fb_len, D6.ahead]; omega
 obtain ⟨L, hL⟩ : ∃ L, d.pre ++ (hb d.last d.hs ++ (d.fb ++ b)) = L := ⟨_, rfl⟩
 have hg : ∀ i, i < 8 → L.getD i 0 = d.first.getD i 0 := fun i hi => by rw [← hL]; exact d.first_get _ hi
 have hdr : L.drop 40 = hb d.last d.hs ++ (d.fb ++ b) := by rw [← hL, List.drop_append_of_le_length (by omega), List.drop_of_length_le (by omega), List.nil_append]
 have hsd := d.src_drop hd (hb d.last d.hs ++ (d.fb ++ b))
 rw [hL] at hl hsd ⊢
 have hcls := hd.cls
 have hlab := hd.lab
 have e0 : L.getD 0 0 = 96 + d.cls / 16 := hg 0 (by decide)
 have e1 : L.getD 1 0 = d.cls % 16 * 16 + d.lab / 65536 := hg 1 (by decide)
 have e2 : L.getD 2 0 = d.lab / 256 % 256 := hg 2 (by decide)
 have e3 : L.getD 3 0 = d.lab % 256 := hg 3 (by decide)
 have e4 : L.getD 4 0 = (d.plen : Int) / 256 := hg 4 (by decide)
 have e5 : L.getD 5 0 = (d.plen : Int) % 256 := hg 5 (by decide)
 have e6 : L.getD 6 0 = nxt d.last d.hs := hg 6 (by decide)
 have e7 : L.getD 7 0 = d.hop := hg 7 (by decide)
 have hsaid : said6 L = d.plen := by unfold said6; rw [e4, e5]; omega
 have hpn : d.plen = d.bl.length + (d.ahead - 40) := rfl
 have hgo := go6_back hd r4 L b d.hs 9 40 [] hdr (by omega) r3 (by simpa using r2) rfl
 have hG : g6 whole L = ⟨0, 0, d.hs, d.frag, d.id, d.off, d.more, d.pro, 40 + hsz d.hs + d.fb.length⟩ := by
  unfold g6
  rw [if_neg (by omega), if_neg (by rw [e0]; omega), if_neg (by
   rw [hsaid, hl, hpn]
   rintro (h | ⟨h, h'⟩)
   ·omega
   ·have := hb2 h; omega), e6, hgo]
  rfl
 have hpos : L.drop (40 + hsz d.hs + d.fb.length) = b := by
  rw [Nat.add_assoc, ← List.drop_drop, hdr, ← List.append_assoc, List.drop_append_of_le_length (by simp only [List.length_append, hb_len]; omega), List.drop_of_length_le (by simp only [List.length_append, hb_len]; omega), List.nil_append]
 refine ⟨by rw [hG], ?_⟩
 unfold got6
 rw [hG, if_pos rfl]
 unfold of6
 dsimp only
 rw [hpos, e0, e1, e2, e3, e7, hsd.1, hsd.2]
 have z1 : (96 + d.cls / 16) % 16 * 16 + (d.cls % 16 * 16 + d.lab / 65536) / 16 = d.cls := by omega
 have z2 : (d.cls % 16 * 16 + d.lab / 65536) % 16 * 65536 + d.lab / 256 % 256 * 256 + d.lab % 256 = d.lab := by omega
 rw [z1, z2]
theorem D6.bytes_eq (d : D6) : d.bytes = d.pre ++ (hb d.last d.hs ++ (d.fb ++ d.bl)) := by simp [D6.bytes, List.append_assoc]
theorem D6.cut (d : D6) (hd : d.ok) (hc : d.check = 0) (n : Nat) (hn : n ≤ d.bl.length) : (g6 false (d.bytes.take (d.bytes.length - n))).err = 0 ∧ got6 false (d.bytes.take (d.bytes.length - n)) = { d with bl := d.bl.take (d.bl.length - n) } := by
 have h := d.head_of hd hc (d.bl.take (d.bl.length - n)) false (by rw [List.length_take]; omega) (fun h => by cases h)
 have e : d.bytes.take (d.bytes.length - n) = d.pre ++ (hb d.last d.hs ++ (d.fb ++ d.bl.take (d.bl.length - n))) := by
  rw [d.bytes_len hd, d.bytes_eq, ← List.append_assoc, ← List.append_assoc, List.take_append]
  have hl : (d.pre ++ hb d.last d.hs ++ d.fb).length = d.ahead := by simp only [List.length_append, d.pre_len hd, hb_len, d.fb_len, D6.ahead]
  rw [hl, List.take_of_length_le (by rw [hl]; omega), List.append_assoc, List.append_assoc]
  congr 4
  omega
 rw [e]
 exact h
end Go.Proofs.Ytjnphelfloiadaa
