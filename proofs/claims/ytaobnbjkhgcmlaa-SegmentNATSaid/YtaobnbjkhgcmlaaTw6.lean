/-
  The walks of segment's two and of the reference's get; numbers of bytes.
-/
import Derived.Test.YtaobnbjkhgcmlaaRwt
namespace Go.Proofs.Ytaobnbjkhgcmlaa
open Go.RowKit Go.Shelf

theorem getD_rng {l : List Int} (h : InB l) (k : Nat) : 0 ≤ l.getD k 0 ∧ l.getD k 0 ≤ 255 := by
  rw [List.getD_eq_getElem?_getD]
  by_cases hk : k < l.length
  · rw [List.getElem?_eq_getElem hk]; exact h.get hk
  · rw [List.getElem?_eq_none (by omega)]; exact ⟨by decide, by decide⟩
theorem By.at {B : Nat} {w : World} {b off n c k : Nat} {l : List Int} (h : By B w (some ⟨b, off, none⟩) n c l) (hk : k < n) : w.cell? ⟨b, off + k, none⟩ = some (.int .u8 (l.getD k 0)) := by
  obtain ⟨b', off', x, e, _, hx, hc, _⟩ := h.get hk
  injection e with e
  injection e with e1 e2 e3
  subst e1 e2
  rw [hc, List.getD_eq_getElem?_getD, hx]
  rfl
def be2 (l : List Int) (i : Nat) : Int := l.getD i 0 * 256 + l.getD (i + 1) 0
def be4 (l : List Int) (i : Nat) : Int := be2 l i * 65536 + be2 l (i + 2)
theorem be2_rng {l : List Int} (h : InB l) (i : Nat) : 0 ≤ be2 l i ∧ be2 l i < 65536 := by
  have h1 := getD_rng h i
  have h2 := getD_rng h (i + 1)
  unfold be2
  omega
theorem be4_rng {l : List Int} (h : InB l) (i : Nat) : 0 ≤ be4 l i ∧ be4 l i < 4294967296 := by
  have h1 := be2_rng h i
  have h2 := be2_rng h (i + 2)
  unfold be4
  omega
theorem or_u64 (i : Nat) {a b : Int} (h1 : 0 ≤ a) (h2 : a < 18446744073709551616) (hd : a % ((2 ^ i : Nat) : Int) = 0) (h3 : 0 ≤ b) (h4 : b < ((2 ^ i : Nat) : Int)) (h5 : b < 18446744073709551616) : bits .or .u64 a b = a + b := by
  rw [u64_or a b h1 h2 h3 h5, nat_join i _ _ (toNat_mod h1 _ hd) (by omega)]; omega

set_option maxRecDepth 100000 in
theorem two6_any (A : Option Addr) (n c : Nat) (l : List Int) (w : World) (y : By w.heap.size w A n c l) (i : Nat) (hi : i + 1 < n) :
    Calls Try.prog 58 #[.slice A n c, .int .i64 i] w fun e w' => e = .returned (.int .u16 (be2 l i)) ∧ Below w.heap.size w w' := by
  obtain ⟨b, off, rfl, hb, -⟩ := y.row.at_ (by omega)
  have hbig := Nat.le_trans y.cap y.big
  have d0 := y.at (k := i) (by omega)
  have d1 := y.at (k := i + 1) hi
  have r0 := getD_rng y.rng i
  have r1 := getD_rng y.rng (i + 1)
  unfold be2
  obtain ⟨x0, hx0⟩ : ∃ x, l.getD i 0 = x := ⟨_, rfl⟩
  obtain ⟨x1, hx1⟩ : ∃ x, l.getD (i + 1) 0 = x := ⟨_, rfl⟩
  rw [hx0] at d0 r0 ⊢
  rw [hx1] at d1 r1 ⊢
  have o1 : bits .or .u16 (x0 * 256) x1 = x0 * 256 + x1 := or_u16 8 (by omega) (by omega) (by omega) (by omega) (by omega) (by omega)
  have z0 : (i : Int) < (n : Int) := by omega
  have z1 : (i : Int) + 1 < (n : Int) := by omega
  clear hx0 hx1
  go_enter Try.func58, Try.ntmps58
  go_wp2
  go_quiet (fail)
  go_wp2
  go_ret
  exact ⟨rfl, below_drewN _ _ _⟩

set_option maxRecDepth 100000 in
theorem get2_any (A : Option Addr) (n c : Nat) (l : List Int) (w : World) (y : By w.heap.size w A n c l) (i : Nat) (hi : i + 1 < n) :
    Calls Try.prog 55 #[.slice A n c, .int .i64 i, .int .i64 2] w fun e w' => e = .returned (.int .u64 (be2 l i)) ∧ Below w.heap.size w w' := by
  obtain ⟨b, off, rfl, hb, -⟩ := y.row.at_ (by omega)
  have hbig := Nat.le_trans y.cap y.big
  have d0 := y.at (k := i) (by omega)
  have d1 := y.at (k := i + 1) hi
  have r0 := getD_rng y.rng i
  have r1 := getD_rng y.rng (i + 1)
  unfold be2
  obtain ⟨x0, hx0⟩ : ∃ x, l.getD i 0 = x := ⟨_, rfl⟩
  obtain ⟨x1, hx1⟩ : ∃ x, l.getD (i + 1) 0 = x := ⟨_, rfl⟩
  rw [hx0] at d0 r0 ⊢
  rw [hx1] at d1 r1 ⊢
  have o0 : bits .or .u64 0 x0 = x0 := by rw [or_u64 8 (by omega) (by omega) (by omega) (by omega) (by omega) (by omega)]; omega
  have o1 : bits .or .u64 (x0 * 256) x1 = x0 * 256 + x1 := or_u64 8 (by omega) (by omega) (by omega) (by omega) (by omega) (by omega)
  have z0 : (i : Int) < (n : Int) := by omega
  have z1 : (i : Int) + 1 < (n : Int) := by omega
  clear hx0 hx1
  go_enter Try.func55, Try.ntmps55
  go_wp2
  refine wp_loop_rounds 3 ?_
  rw [rounds_succ]
  go_wp2
  rw [rounds_succ]
  go_wp2
  rw [rounds_succ]
  go_wp2
  go_ret
  exact ⟨rfl, Below.refl _ _⟩

set_option maxRecDepth 100000 in
theorem get4_any (A : Option Addr) (n c : Nat) (l : List Int) (w : World) (y : By w.heap.size w A n c l) (i : Nat) (hi : i + 3 < n) :
    Calls Try.prog 55 #[.slice A n c, .int .i64 i, .int .i64 4] w fun e w' => e = .returned (.int .u64 (be4 l i)) ∧ Below w.heap.size w w' := by
  obtain ⟨b, off, rfl, hb, -⟩ := y.row.at_ (by omega)
  have hbig := Nat.le_trans y.cap y.big
  have d0 := y.at (k := i) (by omega)
  have d1 := y.at (k := i + 1) (by omega)
  have d2 := y.at (k := i + 2) (by omega)
  have d3 := y.at (k := i + 3) hi
  have r0 := getD_rng y.rng i
  have r1 := getD_rng y.rng (i + 1)
  have r2 := getD_rng y.rng (i + 2)
  have r3 := getD_rng y.rng (i + 3)
  have e4 : be4 l i = ((l.getD i 0 * 256 + l.getD (i + 1) 0) * 256 + l.getD (i + 2) 0) * 256 + l.getD (i + 3) 0 := by unfold be4 be2; rw [show i + 2 + 1 = i + 3 from rfl]; omega
  rw [e4]
  clear e4
  obtain ⟨x0, hx0⟩ : ∃ x, l.getD i 0 = x := ⟨_, rfl⟩
  obtain ⟨x1, hx1⟩ : ∃ x, l.getD (i + 1) 0 = x := ⟨_, rfl⟩
  obtain ⟨x2, hx2⟩ : ∃ x, l.getD (i + 2) 0 = x := ⟨_, rfl⟩
  obtain ⟨x3, hx3⟩ : ∃ x, l.getD (i + 3) 0 = x := ⟨_, rfl⟩
  rw [hx0] at d0 r0 ⊢
  rw [hx1] at d1 r1 ⊢
  rw [hx2] at d2 r2 ⊢
  rw [hx3] at d3 r3 ⊢
  have o0 : bits .or .u64 0 x0 = x0 := by rw [or_u64 8 (by omega) (by omega) (by omega) (by omega) (by omega) (by omega)]; omega
  have o1 : bits .or .u64 (x0 * 256) x1 = x0 * 256 + x1 := or_u64 8 (by omega) (by omega) (by omega) (by omega) (by omega) (by omega)
  have o2 : bits .or .u64 ((x0 * 256 + x1) * 256) x2 = (x0 * 256 + x1) * 256 + x2 := or_u64 8 (by omega) (by omega) (by omega) (by omega) (by omega) (by omega)
  have o3 : bits .or .u64 (((x0 * 256 + x1) * 256 + x2) * 256) x3 = ((x0 * 256 + x1) * 256 + x2) * 256 + x3 := or_u64 8 (by omega) (by omega) (by omega) (by omega) (by omega) (by omega)
  have z0 : (i : Int) < (n : Int) := by omega
  have z1 : (i : Int) + 1 < (n : Int) := by omega
  have z2 : (i : Int) + 2 < (n : Int) := by omega
  have z3 : (i : Int) + 3 < (n : Int) := by omega
  clear hx0 hx1 hx2 hx3
  go_enter Try.func55, Try.ntmps55
  go_wp2
  refine wp_loop_rounds 5 ?_
  rw [rounds_succ]
  go_wp2
  rw [rounds_succ]
  go_wp2
  rw [rounds_succ]
  go_wp2
  rw [rounds_succ]
  go_wp2
  rw [rounds_succ]
  go_wp2
  go_ret
  exact ⟨rfl, Below.refl _ _⟩
end Go.Proofs.Ytaobnbjkhgcmlaa
