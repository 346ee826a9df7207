/-
  More words: numbers of bytes and words reckoned; a part of a slice from one place to another.
-/
import Derived.Test.YtndmmkadceobjaaRegA
namespace Go.Proofs.Ytndmmkadceobjaa
open Go.RowKit

section
variable {P : Program}
theorem conv_i64 (src dst : TypeId) (k : IntKind) (n : Int) (hs : (P.underlying src).isSome = true) (hd : P.underlying dst = some (.int .i64)) (h : -9223372036854775808 ≤ n ∧ n < 9223372036854775808) (w : World) : (convert src dst (.int k n)).run P w = .ok (.int .i64 n) w := by
  have hk : P.intKind dst = .i64 := by simp [Program.intKind, hd]
  have := run_convert_int (P := P) w src dst k n hs (by rw [hk]; exact hd)
  rw [hk, IntWalk.i64_in n (by omega)] at this
  exact this
theorem b_shl8_u16 (t : TypeId) (x : Int) (h : 0 ≤ x ∧ x ≤ 255) (w : World) : (binOp .shl t (.int .u16 x) (.int .u64 8)).run P w = .ok (.int .u16 (x * 256)) w := by
  have h1 := h.1
  have h2 := h.2
  clear h
  go_simp
  exact IntWalk.u16_in _ ⟨by omega, by omega⟩
theorem b_or_u16 (t : TypeId) (x y z : Int) (h : bits .or .u16 x y = z) (w : World) : (binOp .or t (.int .u16 x) (.int .u16 y)).run P w = .ok (.int .u16 z) w := by subst h; rfl
theorem b_and_u8 (t : TypeId) (x y z : Int) (h : bits .and .u8 x y = z) (w : World) : (binOp .and t (.int .u8 x) (.int .u8 y)).run P w = .ok (.int .u8 z) w := by subst h; rfl
theorem b_rem32 (t : TypeId) (x : Int) (h : 0 ≤ x ∧ x ≤ 255) (w : World) : (binOp .rem t (.int .u8 x) (.int .u8 32)).run P w = .ok (.int .u8 (x % 32)) w := by
  have h1 := h.1
  have h2 := h.2
  go_simp
  exact Int.tmod_eq_emod_of_nonneg h1
theorem b_mul256 (t : TypeId) (x : Int) (h : 0 ≤ x ∧ x ≤ 65535) (w : World) : (binOp .mul t (.int .i64 x) (.int .i64 256)).run P w = .ok (.int .i64 (x * 256)) w := by
  have h1 := h.1
  have h2 := h.2
  clear h
  go_simp
  exact IntWalk.i64_in _ (by omega)
theorem By.mid {B : Nat} {w : World} {A : Option Addr} {n c : Nat} {l : List Int} (h : By B w A n c l) (t : TypeId) (ht : P.underlying t = some (.slice 5)) (hs : (P.info? 5).map (·.size) = some 1) {k m : Nat} (hk : k ≤ m) (hm : m ≤ n) :
    ∃ A' c', (∀ w', (Instr.sliceAt t (.slice A n c) (some (.int .i64 (k : Int))) (some (.int .i64 (m : Int))) none).run P w' = .ok (.slice A' (m - k) c') w') ∧ By B w A' (m - k) c' ((l.take m).drop k) := by
  refine ⟨_, _, fun w' => ?_, (h.take hm).cut hk⟩
  have hcap := h.cap
  have he : P.elem t = 5 := by simp [Program.elem, ht]
  have hsz : (sizeOf 5).run P w' = .ok 1 w' := by
    cases hq : P.info? 5 with
    | none => simp [hq] at hs
    | some i => simp [hq] at hs; simp [sizeOf, typeInfo, hq, hs]
  rw [run_sliceAt_slice w' t _ _ _ _ (by rw [he]; exact ht), run_slice_lh w' t _ _ _ (by rw [he]; exact ht) .i64 .i64 (k : Int) (m : Int) (by omega) (by omega) (by omega), he, hsz]
  simp [sliced, Result.andThen]
end
section
variable {P : Program} {md : Region.Mode} {ops : Array Oper} {Q : Exit → Act → World → Prop} {S : World → Prop}
/-- an append of bytes, with what it leaves as it was -/
theorem op_appG {i : Nat} {o : Oper} {fuel : Nat} {listed : Array Bool} {a : Act} {w : World} (s x : Operand) (t : TypeId) (hi : ops.toList[i]? = some o) (hw : Region.wanted o (yielded ops a.tmps) = true)
    (ho : o.op = .call { callee := .builtin .append, args := #[s, x], argTypes := #[t, t] })
    (ht : P.underlying t = some (.slice 5)) (hinfo : (P.info? 5).map (fun i => (i.zero, i.size, i.bytes)) = some (some (.int .u8 0), 1, 1))
    (base : Nat) (v : Value) (l : List Int) (hs : a.eval s = v) (hown : OwnB w base v l)
    (B : Nat) (A : Option Addr) (m c : Nat) (l' : List Int) (hx : a.eval x = .slice A m c) (hy : By B w A m c l')
    (hbytes : l.length + m ≤ 140737488355328) (hbase : base ≤ w.heap.size)
    (hS : ∀ w', Below base w w' → S w')
    (h : ∀ v' w', OwnB w' base v' (l ++ l') → w.grownBy w' v.ownBlock → (v'.ownBlock = v.ownBlock ∨ v'.ownBlock = some w.heap.size) → S w' → wpAnyH P md ops Q S fuel (listed.setIfInBounds i true) (a.put o.dst v') w') : wpOp P ops Q i (fun a' w' => S w' ∧ wpAnyH P md ops Q S fuel (listed.setIfInBounds i true) a' w') a w := by
  have hi : ops[i]? = some o := by simpa using hi
  unfold wpOp
  rw [hi]
  simp only [hw, if_true]
  left
  exact wp_append_row w s x t ho base _ _ 1 ht hinfo rfl v l.length (u8s l) hs hown.own B A m c (u8s l') hx hy.row (fun u hu => by
      obtain ⟨y, _, rfl⟩ := List.mem_map.1 hu; rfl) (by simp only [maxLen]; omega) (by omega) hbase
      fun v' w' h2 h3 h4 => by
        have ho' : OwnB w' base v' (l ++ l') := ⟨by rw [List.length_append, hy.len, u8s_append]; exact h2, hown.rng.app hy.rng⟩
        exact ⟨hS w' (below_app hown h3 hbase), h v' w' ho' h3 h4 (hS w' (below_app hown h3 hbase))⟩
theorem wpAnyH_rest6 {fuel : Nat} {listed : Array Bool} {a : Act} {w : World} {R : Option Addr → Nat → Option Addr → Nat → Nat → Nat → World → Prop} (F : Option Addr → Nat → Option Addr → Nat → Nat → Nat → Act)
    (h1 : (∀ A k B m g g' W, R A k B m g g' W → Q .normal (F A k B m g g') W) → wpAnyH P md ops Q S fuel listed a w) (h2 : ∀ A k B m g g' W, R A k B m g g' W → Q .normal (F A k B m g g') W) : wpAnyH P md ops Q S fuel listed a w := h1 h2
theorem ex_not8 {ρ : Operand → Value} {o : Oper} {t : TypeId} {x : Operand} {n : Int} {w : World} (ho : o.op = .unOp .xor t x) (hx : ρ x = .int .u8 n) (h : 0 ≤ n ∧ n < 256) : (execOp ρ o).run P w = .ok (.value (.int .u8 (255 - n))) w := by
  have h1 := not_u8 n h.1 h.2
  have hr : (Op.unary .xor (.int .u8 n)).run P w = .ok (.int .u8 (255 - n)) w := by rw [← h1]; rfl
  unfold execOp
  simp only [ho, hx, Sem.run_bind, hr, Result.andThen_ok, Sem.run_pure]
end
theorem and_bit6 : ∀ x : Fin 256, ((x.val &&& 64) != 0) = decide (x.val / 64 % 2 = 1) := by decide +kernel
theorem and_bit5 : ∀ x : Fin 256, ((x.val &&& 32) != 0) = decide (x.val / 32 % 2 = 1) := by decide +kernel
theorem df_bit {x : Int} (h : 0 ≤ x ∧ x ≤ 255) : (bits .and .u8 x 64 != 0) = decide (x / 64 % 2 = 1) := by
  have h1 := and_bit6 ⟨x.toNat, by omega⟩
  have e := u8_and x 64 h.1 (by omega) (by decide) (by decide)
  rw [e]
  simp only at h1
  obtain ⟨n, rfl⟩ := Int.eq_ofNat_of_zero_le h.1
  simp only [Int.toNat_natCast] at h1 ⊢
  have e2 : (decide (n / 64 % 2 = 1)) = decide ((n : Int) / 64 % 2 = 1) := by
    rw [Bool.eq_iff_iff]; simp only [decide_eq_true_eq]; omega
  rw [← e2, ← h1, Bool.eq_iff_iff]
  simp only [bne_iff_ne, ne_eq, show (64 : Int).toNat = 64 from rfl]
  omega
theorem mf_bit {x : Int} (h : 0 ≤ x ∧ x ≤ 255) : (bits .and .u8 x 32 != 0) = decide (x / 32 % 2 = 1) := by
  have h1 := and_bit5 ⟨x.toNat, by omega⟩
  have e := u8_and x 32 h.1 (by omega) (by decide) (by decide)
  rw [e]
  simp only at h1
  obtain ⟨n, rfl⟩ := Int.eq_ofNat_of_zero_le h.1
  simp only [Int.toNat_natCast] at h1 ⊢
  have e2 : (decide (n / 32 % 2 = 1)) = decide ((n : Int) / 32 % 2 = 1) := by
    rw [Bool.eq_iff_iff]; simp only [decide_eq_true_eq]; omega
  rw [← e2, ← h1, Bool.eq_iff_iff]
  simp only [bne_iff_ne, ne_eq, show (32 : Int).toNat = 32 from rfl]
  omega
end Go.Proofs.Ytndmmkadceobjaa
