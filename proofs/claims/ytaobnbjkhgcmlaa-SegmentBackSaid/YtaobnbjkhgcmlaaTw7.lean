/-
  The walk of segment's four; parts of a row; bits.
-/
import Derived.Test.YtaobnbjkhgcmlaaP6P
import Derived.Test.YtaobnbjkhgcmlaaReg6
import Derived.Test.YtaobnbjkhgcmlaaClone
namespace Go.Proofs.Ytaobnbjkhgcmlaa
open Go.RowKit Go.Shelf

section
variable {P : Program}
theorem By.part {B : Nat} {w : World} {A : Option Addr} {n c : Nat} {l : List Int} (h : By B w A n c l) (t : TypeId) (ht : P.underlying t = some (.slice 5)) (hs : (P.info? 5).map (·.size) = some 1) {k m : Nat} (hk : k ≤ m) (hm : m ≤ n) :
    ∃ A' c', (∀ w', (Instr.sliceAt t (.slice A n c) (some (.int .i64 (k : Int))) (some (.int .i64 (m : Int))) none).run P w' = .ok (.slice A' (m - k) c') w') ∧ By B w A' (m - k) c' ((l.take m).drop k) := by
  refine ⟨_, _, fun w' => ?_, (h.take hm).cut hk⟩
  have hcap := h.cap
  have he : P.elem t = 5 := by simp [Program.elem, ht]
  have hsz : (sizeOf 5).run P w' = .ok 1 w' := by
    cases hq : P.info? 5 with
    | none => simp [hq] at hs
    | some i => simp [hq] at hs; simp [sizeOf, typeInfo, hq, hs]
  rw [run_sliceAt_slice w' t _ _ _ _ (by rw [he]; exact ht), run_slice_lh w' t _ _ _ (by rw [he]; exact ht) .i64 .i64 (k : Int) (m : Int) (by omega) (by omega) (by omega), he, hsz]
  simp [sliced, Result.andThen]
theorem and63 (t : TypeId) (x : Int) (h : 0 ≤ x ∧ x ≤ 255) (w : World) : (binOp .and t (.int .u8 x) (.int .u8 63)).run P w = .ok (.int .u8 (x % 64)) w := by
  have := and_u8 6 63 rfl (by decide) h.1 (by omega : x < 256)
  go_simp
theorem rem64 (t : TypeId) (x : Int) (h : 0 ≤ x ∧ x ≤ 255) (w : World) : (binOp .rem t (.int .u8 x) (.int .u8 64)).run P w = .ok (.int .u8 (x % 64)) w := by
  have h1 := h.1
  have h2 := h.2
  go_simp
  exact Int.tmod_eq_emod_of_nonneg h1
end

set_option maxRecDepth 100000 in
theorem four6_any (A : Option Addr) (n c : Nat) (l : List Int) (w : World) (y : By w.heap.size w A n c l) (i : Nat) (hi : i + 3 < n) :
    Calls Try.prog 71 #[.slice A n c, .int .i64 i] w fun e w' => e = .returned (.int .u32 (be4 l i)) ∧ Below w.heap.size w w' := by
  have hbig := Nat.le_trans y.cap y.big
  have r0 := be2_rng y.rng i
  have r1 := be2_rng y.rng (i + 2)
  have o1 : bits .or .u32 (be2 l i * 65536) (be2 l (i + 2)) = be2 l i * 65536 + be2 l (i + 2) := or_u32 16 (by omega) (by omega) (by omega) (by omega) (by omega) (by omega)
  have z1 : (i : Int) + 2 < (n : Int) := by omega
  unfold be4
  go_enter Try.func71, Try.ntmps71
  go_wp2_with fail
  refine (two6_any A n c l w y i (by omega)).mono ?_
  rintro e w1 ⟨rfl, hb1⟩
  have y1 := (y.below hb1 (Nat.le_refl _)).more hb1.size
  go_wp2_with fail
  refine (two6_any A n c l w1 y1 (i + 2) (by omega)).mono ?_
  rintro e w2 ⟨rfl, hb2⟩
  go_wp2
  go_ret
  exact ⟨rfl, hb1.trans (hb2.mono hb1.size)⟩
end Go.Proofs.Ytaobnbjkhgcmlaa
