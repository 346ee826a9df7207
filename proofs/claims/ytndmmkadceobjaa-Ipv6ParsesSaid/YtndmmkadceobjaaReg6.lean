/-
  More moves in a region that draws its order: an empty slice literal; conversions down.
-/
import Derived.Test.YtndmmkadceobjaaReg5
namespace Go.Proofs.Ytndmmkadceobjaa
open Go.RowKit

section
variable {P : Program}
variable {md : Region.Mode} {ops : Array Oper} {Q : Exit → Act → World → Prop} {S : World → Prop}
theorem run_build0 (w : World) (t e : TypeId) (hu : P.underlying t = some (.slice e)) (hs : (P.info? e).map (·.size) = some 1) : (Instr.buildSlice t 0 #[]).run P w = .ok (.slice (some ⟨w.heap.size, 0, none⟩) 0 0) (w.alloc (.cells #[] e)) := by
  cases hq : P.info? e with
  | none => simp [hq] at hs
  | some ie => simp [Instr.buildSlice, run_underlying hu, sizeOf, typeInfo, hq, Instr.fill, newRow]; congr 2; exact Array.eq_empty_of_size_eq_zero (by simp)
theorem op_build0 {i : Nat} {o : Oper} {t : TypeId} {fuel : Nat} {listed : Array Bool} {a : Act} {w : World} (hi : ops.toList[i]? = some o) (hw : Region.wanted o (yielded ops a.tmps) = true)
    (ho : o.op = .buildSlice t 0 #[]) (hu : P.underlying t = some (.slice 5)) (hs : (P.info? 5).map (·.size) = some 1)
    (hS : ∀ w', Below w.heap.size w w' → S w') (h : ∀ g w', OwnB w' w.heap.size (.slice (some ⟨g, 0, none⟩) 0 0) [] → Below w.heap.size w w' → S w' → wpAnyH P md ops Q S fuel (listed.setIfInBounds i true) (a.put o.dst (.slice (some ⟨g, 0, none⟩) 0 0)) w') : wpOp P ops Q i (fun a' w' => S w' ∧ wpAnyH P md ops Q S fuel (listed.setIfInBounds i true) a' w') a w := by
  have hi : ops[i]? = some o := by simpa using hi
  unfold wpOp
  rw [hi]
  simp only [hw, if_true]
  left
  have hb : Below w.heap.size w (w.alloc (.cells #[] 5)) := (Below.refl _ _).alloc (Nat.le_refl _) _
  unfold Oper.wp execOp
  simp only [ho, Sem.run_bind, List.map_toArray, List.map_nil, run_build0 w t _ hu hs, Result.andThen_ok]
  exact ⟨hS _ hb, h _ _ (OwnB.made w w.heap.size (Nat.le_refl _)) hb (hS _ hb)⟩
theorem conv_u16 (src dst : TypeId) (k : IntKind) (n : Int) (hs : (P.underlying src).isSome = true) (hd : P.underlying dst = some (.int .u16)) (h0 : 0 ≤ n) (h1 : n < 65536) (w : World) : (convert src dst (.int k n)).run P w = .ok (.int .u16 n) w := by
  have hk : P.intKind dst = .u16 := by simp [Program.intKind, hd]
  have := run_convert_int (P := P) w src dst k n hs (by rw [hk]; exact hd)
  rw [hk, IntWalk.u16_in n ⟨h0, by omega⟩] at this
  exact this
theorem conv_u32 (src dst : TypeId) (k : IntKind) (n : Int) (hs : (P.underlying src).isSome = true) (hd : P.underlying dst = some (.int .u32)) (h0 : 0 ≤ n) (h1 : n < 4294967296) (w : World) : (convert src dst (.int k n)).run P w = .ok (.int .u32 n) w := by
  have hk : P.intKind dst = .u32 := by simp [Program.intKind, hd]
  have := run_convert_int (P := P) w src dst k n hs (by rw [hk]; exact hd)
  rw [hk, IntWalk.u32_in n ⟨h0, by omega⟩] at this
  exact this
end
end Go.Proofs.Ytndmmkadceobjaa
