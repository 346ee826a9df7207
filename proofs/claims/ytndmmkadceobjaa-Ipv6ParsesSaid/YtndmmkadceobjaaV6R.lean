/-
  Numbers reckoned, one lemma an operation: what the moves in a region that draws its order ask for.
-/
import Derived.Test.YtndmmkadceobjaaRegB
import Derived.Test.YtndmmkadceobjaaBits
namespace Go.Proofs.Ytndmmkadceobjaa
open Go.RowKit

section
variable {P : Program}
theorem b_sub (t : TypeId) {x y : Int} (z : Int) (h : x - y = z) (h0 : -9223372036854775808 ≤ z ∧ z < 9223372036854775808) (w : World) : (binOp .sub t (.int .i64 x) (.int .i64 y)).run P w = .ok (.int .i64 z) w := by
  subst h
  have h1 := h0.1
  have h2 := h0.2
  clear h0
  go_simp
  exact IntWalk.i64_in _ (by omega)
theorem b_add (t : TypeId) {x y : Int} (z : Int) (h : x + y = z) (h0 : -9223372036854775808 ≤ z ∧ z < 9223372036854775808) (w : World) : (binOp .add t (.int .i64 x) (.int .i64 y)).run P w = .ok (.int .i64 z) w := by
  subst h
  exact add_i64 t x y h0 w
theorem b_mul (t : TypeId) {x y : Int} (z : Int) (h : x * y = z) (h0 : -9223372036854775808 ≤ z ∧ z < 9223372036854775808) (w : World) : (binOp .mul t (.int .i64 x) (.int .i64 y)).run P w = .ok (.int .i64 z) w := by
  subst h
  have h1 := h0.1
  have h2 := h0.2
  clear h0
  go_simp
  exact IntWalk.i64_in _ (by omega)
theorem b_gtr (t : TypeId) {x y : Int} (q : Bool) (h : decide (y < x) = q) (w : World) : (binOp .gtr t (.int .i64 x) (.int .i64 y)).run P w = .ok (.bool q) w := by
  subst h
  rfl
theorem b_lss (t : TypeId) {x y : Int} (q : Bool) (h : decide (x < y) = q) (w : World) : (binOp .lss t (.int .i64 x) (.int .i64 y)).run P w = .ok (.bool q) w := by
  subst h
  rfl
theorem b_leq (t : TypeId) {x y : Int} (q : Bool) (h : decide (x ≤ y) = q) (w : World) : (binOp .leq t (.int .i64 x) (.int .i64 y)).run P w = .ok (.bool q) w := by
  subst h
  rfl
theorem b_geq (t : TypeId) {x y : Int} (q : Bool) (h : decide (y ≤ x) = q) (w : World) : (binOp .geq t (.int .i64 x) (.int .i64 y)).run P w = .ok (.bool q) w := by
  subst h
  rfl
theorem b_shr (k : IntKind) (t : TypeId) {x : Int} (n : Nat) (z : Int) (h : x / 2 ^ n = z) (hn : n ≤ k.bits) (w : World) : (binOp .shr t (.int k x) (.int .u64 (n : Int))).run P w = .ok (.int k z) w := by
  subst h
  have h := shift_shr k .u64 x (n : Int) (Int.natCast_nonneg n) (by exact_mod_cast hn)
  rw [binOp_shr, h]
  rfl
theorem b_quo (t : TypeId) {x y : Int} (z : Int) (h : x / y = z) (h0 : 0 ≤ x ∧ x < 9223372036854775808) (h1 : 0 < y) (w : World) : (binOp .quo t (.int .i64 x) (.int .i64 y)).run P w = .ok (.int .i64 z) w := by
  subst h
  have e : x.tdiv y = x / y := Int.tdiv_eq_ediv_of_nonneg h0.1
  have hz : IntKind.i64.wrap (x / y) = x / y := IntWalk.i64_in _ (by
    have h2 : 0 ≤ x / y := Int.ediv_nonneg h0.1 (by omega)
    have h3 : x / y ≤ x := Int.ediv_le_self y h0.1
    omega)
  have hy : y ≠ 0 := by omega
  simp [go_sem, hy, e, hz]
theorem b_rem (t : TypeId) {x y : Int} (z : Int) (h : x % y = z) (h0 : 0 ≤ x ∧ x < 9223372036854775808) (h1 : 0 < y ∧ y < 9223372036854775808) (w : World) : (binOp .rem t (.int .i64 x) (.int .i64 y)).run P w = .ok (.int .i64 z) w := by
  subst h
  have e : x.tmod y = x % y := Int.tmod_eq_emod_of_nonneg h0.1
  have hz : IntKind.i64.wrap (x % y) = x % y := IntWalk.i64_in _ (by
    have h2 : 0 ≤ x % y := Int.emod_nonneg x (by omega)
    have h3 : x % y < y := Int.emod_lt_of_pos x h1.1
    omega)
  have hy : y ≠ 0 := by omega
  simp [go_sem, hy, e, hz]
theorem b_or8 (t : TypeId) {x y : Int} (z : Int) (h : bits .or .u8 x y = z) (w : World) : (binOp .or t (.int .u8 x) (.int .u8 y)).run P w = .ok (.int .u8 z) w := by subst h; rfl
theorem b_shl4 (t : TypeId) {x : Int} (z : Int) (h : x * 16 % 256 = z) (w : World) : (binOp .shl t (.int .u8 x) (.int .u64 4)).run P w = .ok (.int .u8 z) w := by
  subst h
  have h := shift_shl .u8 .u64 x 4 (by decide) (by decide)
  rw [binOp_shl, h]
  show Result.ok (Value.int .u8 (IntKind.u8.wrap (x * 2 ^ (4 : Int).toNat))) w = _
  rw [IntKind.wrap_u8]
  rfl
theorem b_quo16 (t : TypeId) {x : Int} (h : 0 ≤ x ∧ x ≤ 255) (w : World) : (binOp .quo t (.int .u8 x) (.int .u8 16)).run P w = .ok (.int .u8 (x / 16)) w := by
  have h1 := h.1
  have h2 := h.2
  have e : x.tdiv 16 = x / 16 := Int.tdiv_eq_ediv_of_nonneg h1
  have hz : IntKind.u8.wrap (x / 16) = x / 16 := by rw [IntKind.wrap_u8]; omega
  clear h
  simp [go_sem, e, hz]
theorem b_rem16 (t : TypeId) {x : Int} (h : 0 ≤ x ∧ x ≤ 255) (w : World) : (binOp .rem t (.int .u8 x) (.int .u8 16)).run P w = .ok (.int .u8 (x % 16)) w := by
  have h1 := h.1
  have h2 := h.2
  have e : x.tmod 16 = x % 16 := Int.tmod_eq_emod_of_nonneg h1
  have hz : IntKind.u8.wrap (x % 16) = x % 16 := by rw [IntKind.wrap_u8]; omega
  clear h
  simp [go_sem, e, hz]
theorem b_mul8 (t : TypeId) {x y : Int} (z : Int) (h : x * y = z) (h0 : 0 ≤ z ∧ z ≤ 255) (w : World) : (binOp .mul t (.int .u8 x) (.int .u8 y)).run P w = .ok (.int .u8 z) w := by
  subst h
  have hz : IntKind.u8.wrap (x * y) = x * y := by rw [IntKind.wrap_u8]; omega
  simp [go_sem, hz]
theorem b_add8 (t : TypeId) {x y : Int} (z : Int) (h : x + y = z) (h0 : 0 ≤ z ∧ z ≤ 255) (w : World) : (binOp .add t (.int .u8 x) (.int .u8 y)).run P w = .ok (.int .u8 z) w := by
  subst h
  have hz : IntKind.u8.wrap (x + y) = x + y := by rw [IntKind.wrap_u8]; omega
  simp [go_sem, hz]
theorem b_quo32 (t : TypeId) {x y : Int} (z : Int) (h : x / y = z) (h0 : 0 ≤ x ∧ x < 4294967296) (h1 : 0 < y) (w : World) : (binOp .quo t (.int .u32 x) (.int .u32 y)).run P w = .ok (.int .u32 z) w := by
  subst h
  have e : x.tdiv y = x / y := Int.tdiv_eq_ediv_of_nonneg h0.1
  have hz : IntKind.u32.wrap (x / y) = x / y := IntWalk.u32_in _ (by
    have h2 : 0 ≤ x / y := Int.ediv_nonneg h0.1 (by omega)
    have h3 : x / y ≤ x := Int.ediv_le_self y h0.1
    omega)
  have hy : y ≠ 0 := by omega
  simp [go_sem, hy, e, hz]
theorem b_add32 (t : TypeId) {x y : Int} (z : Int) (h : x + y = z) (h0 : 0 ≤ z ∧ z < 4294967296) (w : World) : (binOp .add t (.int .u32 x) (.int .u32 y)).run P w = .ok (.int .u32 z) w := by
  subst h
  have hz : IntKind.u32.wrap (x + y) = x + y := IntWalk.u32_in _ (by omega)
  simp [go_sem, hz]
theorem b_mul32 (t : TypeId) {x y : Int} (z : Int) (h : x * y = z) (h0 : 0 ≤ z ∧ z < 4294967296) (w : World) : (binOp .mul t (.int .u32 x) (.int .u32 y)).run P w = .ok (.int .u32 z) w := by
  subst h
  have hz : IntKind.u32.wrap (x * y) = x * y := IntWalk.u32_in _ (by omega)
  simp [go_sem, hz]
end
end Go.Proofs.Ytndmmkadceobjaa
