/-
  More moves in a region that draws its order: a value read in this world alone; a cell stored; what lies behind, over four names.
-/
import Derived.Test.YtaobnbjkhgcmlaaReg8
namespace Go.Proofs.Ytaobnbjkhgcmlaa
open Go.RowKit

section
variable {P : Program} {md : Region.Mode} {ops : Array Oper} {Q : Exit → Act → World → Prop} {S : World → Prop}
theorem op_val {i : Nat} {o : Oper} (v : Value) {fuel : Nat} {listed : Array Bool} {a : Act} {w : World} (hi : ops.toList[i]? = some o) (hw : Region.wanted o (yielded ops a.tmps) = true)
    (hv : (execOp a.eval o).run P w = .ok (.value v) w) (hS : S w) (h : wpAnyH P md ops Q S fuel (listed.setIfInBounds i true) (a.put o.dst v) w) : wpOp P ops Q i (fun a' w' => S w' ∧ wpAnyH P md ops Q S fuel (listed.setIfInBounds i true) a' w') a w := by
  have hi : ops[i]? = some o := by simpa using hi
  unfold wpOp
  rw [hi]
  simp only [hw, if_true]
  left
  unfold Oper.wp
  rw [hv]
  exact ⟨hS, h⟩
theorem ex_max {ρ : Operand → Value} {o : Oper} {ts : Array TypeId} {x y : Operand} {k k' : IntKind} {m n r : Int} {w : World} (ho : o.op = .call { callee := .builtin .max, args := #[x, y], argTypes := ts }) (hx : ρ x = .int k m) (hy : ρ y = .int k' n) (h : (if n > m then n else m) = r) : (execOp ρ o).run P w = .ok (.value (.int k r)) w := by
  subst h
  unfold execOp
  simp [ho, resolve, invoke, builtin, hx, hy, run_max_int2]
theorem add1_i64 (t : TypeId) (k : Nat) (h : k < 9223372036854775807) (w : World) : (binOp .add t (.int .i64 (k : Int)) (.int .i64 1)).run P w = .ok (.int .i64 ((k + 1 : Nat) : Int)) w := by
  rw [add_i64 t (k : Int) 1 (by omega) w, Int.natCast_add]
  rfl
theorem shr8_i64 (t : TypeId) (m : Int) (w : World) : (binOp .shr t (.int .i64 m) (.int .u64 8)).run P w = .ok (.int .i64 (m / 256)) w := by
  have h := shift_shr_i64 (x := m) (y := 8) (yk := .u64) (by decide) (by decide)
  rw [binOp_shr, h]
  rfl
theorem conv_u8' (src dst : TypeId) (k : IntKind) (n : Int) (hs : (P.underlying src).isSome = true) (hd : P.underlying dst = some (.int .u8)) (h : 0 ≤ n ∧ n < 256) (w : World) : (convert src dst (.int k n)).run P w = .ok (.int .u8 n) w := by
  rw [conv_u8 src dst k n hs hd, show n % 256 = n from by omega]
theorem wpAnyH_rest4 {fuel : Nat} {listed : Array Bool} {a : Act} {w : World} {R : Option Addr → Nat → Option Addr → Nat → World → Prop} (F : Option Addr → Nat → Option Addr → Nat → Act)
    (h1 : (∀ A k B m W, R A k B m W → Q .normal (F A k B m) W) → wpAnyH P md ops Q S fuel listed a w) (h2 : ∀ A k B m W, R A k B m W → Q .normal (F A k B m) W) : wpAnyH P md ops Q S fuel listed a w := h1 h2
end
end Go.Proofs.Ytaobnbjkhgcmlaa
