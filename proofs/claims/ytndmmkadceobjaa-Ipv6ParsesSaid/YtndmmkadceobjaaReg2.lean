/-
  A region whose operations read, with stores at its end, in a forced order: the reading part, operation by operation, at one world.
-/
import Derived.Test.YtndmmkadceobjaaReg
import Derived.Test.YtndmmkadceobjaaBits
import Derived.IntWalk
import Derived.StillTailTactics
namespace Go.Proofs.Ytndmmkadceobjaa
open Go.RowKit

section
variable {P : Program}
theorem st {ops : Array Oper} {w : World} {Q : Act → Prop} {a : Act} {o : Oper} {rest : List Oper} (v : Value) (hw : Region.wanted o (yielded ops a.tmps) = true) (hv : (execOp a.eval o).run P w = .ok (.value v) w)
    (h : wpStill P ops w Q rest (a.put o.dst v)) : wpStill P ops w Q (o :: rest) a :=
  wpStill_step fun K hK => by
    rw [if_pos hw]
    unfold Oper.still
    rw [hv]
    exact ⟨rfl, hK _ h⟩
theorem ex_bin {ρ : Operand → Value} {o : Oper} {op : BinOp} {t z : TypeId} {x y : Operand} {u u' v : Value} {w : World} (ho : o.op = .binOp op t x y z) (hx : ρ x = u) (hy : ρ y = u') (hn : op ≠ .eql ∧ op ≠ .neq) (h : (binOp op t u u').run P w = .ok v w) : (execOp ρ o).run P w = .ok (.value v) w := by
  subst hx hy
  unfold execOp
  simp only [ho]
  have hg : (eqGuard op t x y (ρ x) (ρ y)).run P w = .ok () w := by cases op <;> simp_all [eqGuard]
  simp only [Sem.run_bind, hg, Result.andThen_ok, h, Sem.run_pure]
theorem q_quo8 (t : TypeId) (K : Int) (h : 0 ≤ K ∧ K < 1099511627776) (w : World) : (binOp .quo t (.int .i64 K) (.int .i64 8)).run P w = .ok (.int .i64 (K / 8)) w := by
  have h1 := h.1
  have h2 := h.2
  clear h
  go_simp
  rw [Int.tdiv_eq_ediv_of_nonneg h1]
  exact IntWalk.i64_in _ (by omega)
theorem q_rem8 (t : TypeId) (K : Int) (h : 0 ≤ K ∧ K < 1099511627776) (w : World) : (binOp .rem t (.int .i64 K) (.int .i64 8)).run P w = .ok (.int .i64 (K % 8)) w := by
  have h1 := h.1
  have h2 := h.2
  clear h
  go_simp
  exact Int.tmod_eq_emod_of_nonneg h1
theorem q_shl1 (t : TypeId) (J : Int) (h : 0 ≤ J ∧ J < 8) (w : World) : (binOp .shl t (.int .u8 1) (.int .i64 J)).run P w = .ok (.int .u8 (2 ^ J.toNat)) w := by
  have h1 := h.1
  have h2 := h.2
  have hc : J = 0 ∨ J = 1 ∨ J = 2 ∨ J = 3 ∨ J = 4 ∨ J = 5 ∨ J = 6 ∨ J = 7 := by omega
  rcases hc with rfl | rfl | rfl | rfl | rfl | rfl | rfl | rfl <;> rfl
theorem q_xor (t : TypeId) (x y : Int) (hx : 0 ≤ x ∧ x ≤ 255) (hy : 0 ≤ y ∧ y ≤ 255) (w : World) : (binOp .xor t (.int .u8 x) (.int .u8 y)).run P w = .ok (.int .u8 ((x.toNat ^^^ y.toNat : Nat) : Int)) w := by
  have h := u8_xor x y hx.1 (by omega) hy.1 (by omega)
  rw [← h]
  rfl
theorem ex_index0 {ρ : Operand → Value} {o : Oper} {t e : TypeId} {x ix : Operand} {b n c k : Nat} {w : World} (ho : o.op = .indexAddr t x ix) (ht : P.underlying t = some (.slice e)) (hs : (P.info? e).map (·.size) = some 1) (hx : ρ x = .slice (some ⟨b, 0, none⟩) n c) (hi : ρ ix = .int .i64 (k : Int)) (hk : k < n) :
    (execOp ρ o).run P w = .ok (.value (.pointer (some ⟨b, k, none⟩))) w := by
  have := ex_index (P := P) (w := w) ho ht hs hx hi hk
  rwa [Nat.zero_add] at this
end
end Go.Proofs.Ytndmmkadceobjaa
