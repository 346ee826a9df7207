/-
  Lemmas and walks for the row of TofourTells (part 21 of 37).
-/
import Derived.Test.YtjnphelfloiadaaFtAT
set_option linter.unusedVariables false
set_option linter.unusedSimpArgs false
namespace Go.Proofs.Ytjnphelfloiadaa
open Go.RowKit Go.Shelf

section
variable {P : Program}
theorem ex_indexA {ρ : Operand → Value} {o : Oper} {t e : TypeId} {x ix : Operand} {g q n k : Nat} {w : World} (ho : o.op = .indexAddr t x ix) (ht : P.underlying t = some (.array n e)) (hs : (P.info? e).map (·.size) = some 1) (hx : ρ x = .pointer (some ⟨g, q, none⟩)) (hi : ρ ix = .int .i64 (k : Int)) (hk : k < n) :
  (execOp ρ o).run P w = .ok (.value (.pointer (some ⟨g, q + k, none⟩))) w := by
 have hsz : (sizeOf e).run P w = .ok 1 w := by
  cases hq : P.info? e with
  | none => simp [hq] at hs
  | some i => simp [hq] at hs; simp [sizeOf, typeInfo, hq, hs]
 unfold execOp
 simp [ho, hx, hi, Instr.indexAt, run_underlying ht, hsz, hk, Go.WideShapes.add_plain, asIntOf, Instr.sureAddr]
end
theorem RT.below7 {B G gr gv : Nat} {W0 w w' : World} {A : Option Addr} {N c k : Nat} {bad pos : Int} {D : D6} {p : W6} (h : RT B G gr gv W0 w A N c k bad pos D p) (hB : B ≤ gr) (hb : Below w.heap.size w w') : RT B G gr gv W0 w' A N c k bad pos D p :=
 ⟨h.rd.below hb h.rd.lt, h.vv.below hb h.vv.lt, h.own.below hb, h.hl, h.bel.trans (hb.mono (Nat.le_trans hB (Nat.le_of_lt h.rd.lt)))⟩
theorem RT.atOf {B G gr gv : Nat} {W0 w : World} {A : Option Addr} {N c k : Nat} {bad pos : Int} {D : D6} {p : W6} (h : RT B G gr gv W0 w A N c k bad pos D p) : atOf w gr = k := by
 unfold Go.Proofs.Ytjnphelfloiadaa.atOf
 rw [h.rd.cell 1 (v := .int .i64 (k : Int)) rfl]
 simp
/-- the first j of sixteen -/
def fst16 (s : List Int) (j : Nat) : List Int := s.take j ++ List.replicate (16 - j) 0
theorem fst16_len {s : List Int} (h : s.length = 16) {j : Nat} (hj : j ≤ 16) : (fst16 s j).length = 16 := by simp [fst16, h]; omega
theorem fst16_set {s : List Int} (h : s.length = 16) {j : Nat} (hj : j < 16) : (fst16 s j).set j (s.getD j 0) = fst16 s (j + 1) := by
 obtain ⟨x0, x1, x2, x3, x4, x5, x6, x7, x8, x9, x10, x11, x12, x13, x14, x15, rfl⟩ := len16 h
 exact lt16 (P := fun j => (fst16 [x0, x1, x2, x3, x4, x5, x6, x7, x8, x9, x10, x11, x12, x13, x14, x15] j).set j (List.getD [x0, x1, x2, x3, x4, x5, x6, x7, x8, x9, x10, x11, x12, x13, x14, x15] j 0) = fst16 [x0, x1, x2, x3, x4, x5, x6, x7, x8, x9, x10, x11, x12, x13, x14, x15] (j + 1)) rfl rfl rfl rfl rfl rfl rfl rfl rfl rfl rfl rfl rfl rfl rfl rfl j hj
theorem fst16_all {s : List Int} (h : s.length = 16) : fst16 s 16 = s := by simp [fst16, ← h]
theorem cells_src (D : D6) (p : W6) (x : Int) (h : D.src.length = 16) : ∀ j, j < 16 → (D.cells p).setIfInBounds (3 + j) (.int .u8 x) = D6.cells { D with src := D.src.set j x } p := by
 obtain ⟨cls, lab, hop, src, dst, hs, frag, id, off, more, pro, bl⟩ := D
 obtain ⟨x0, x1, x2, x3, x4, x5, x6, x7, x8, x9, x10, x11, x12, x13, x14, x15, rfl⟩ := len16 h
 exact lt16 rfl rfl rfl rfl rfl rfl rfl rfl rfl rfl rfl rfl rfl rfl rfl rfl
theorem cells_dst (D : D6) (p : W6) (x : Int) (h : D.dst.length = 16) : ∀ j, j < 16 → (D.cells p).setIfInBounds (19 + j) (.int .u8 x) = D6.cells { D with dst := D.dst.set j x } p := by
 obtain ⟨cls, lab, hop, src, dst, hs, frag, id, off, more, pro, bl⟩ := D
 obtain ⟨x0, x1, x2, x3, x4, x5, x6, x7, x8, x9, x10, x11, x12, x13, x14, x15, rfl⟩ := len16 h
 exact lt16 rfl rfl rfl rfl rfl rfl rfl rfl rfl rfl rfl rfl rfl rfl rfl rfl

end Go.Proofs.Ytjnphelfloiadaa
