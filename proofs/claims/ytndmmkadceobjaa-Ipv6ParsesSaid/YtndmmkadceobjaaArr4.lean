/-
  Two [4]byte compared.
-/
import Derived.Test.YtndmmkadceobjaaReg3
namespace Go.Proofs.Ytndmmkadceobjaa
open Go.RowKit

section
variable {P : Program}
theorem arr4_equal (t e : TypeId) (ht : P.underlying t = some (.array 4 e)) (he : P.underlying e = some (.int .u8)) (hs : (P.info? e).map (·.size) = some 1) (a0 a1 a2 a3 b0 b1 b2 b3 : Int) (w : World) :
    (Op.equalIn 10000 t (.agg #[.int .u8 a0, .int .u8 a1, .int .u8 a2, .int .u8 a3]) (.agg #[.int .u8 b0, .int .u8 b1, .int .u8 b2, .int .u8 b3])).run P w = .ok (decide ([a0, a1, a2, a3] = [b0, b1, b2, b3])) w := by
  have hsz : (sizeOf e).run P w = .ok 1 w := by
    cases hq : P.info? e with
    | none => simp [hq] at hs
    | some i => simp [hq] at hs; simp [sizeOf, typeInfo, hq, hs]
  have hi : ∀ a b : Int, (Op.equalIn 9999 e (.int .u8 a) (.int .u8 b)).run P w = .ok (a == b) w := fun a b => run_equalIn_int w 9998 e .u8 .u8 a b he
  rw [show (10000 : Nat) = 9999 + 1 from rfl]
  unfold Op.equalIn
  have hagg : (isAgg e).run P w = .ok false w := by
    unfold isAgg
    rw [Sem.run_bind, run_underlying he w]
    rfl
  have hp : ∀ (cs : Array Value) (i : Nat) (x : Int), cs[i]? = some (.int .u8 x) → (part e cs i).run P w = .ok (.int .u8 x) w := fun cs i x hx => by simp [part, hagg, hx]
  have p0 := hp #[.int .u8 a0, .int .u8 a1, .int .u8 a2, .int .u8 a3] 0 a0 rfl
  have p1 := hp #[.int .u8 a0, .int .u8 a1, .int .u8 a2, .int .u8 a3] 1 a1 rfl
  have p2 := hp #[.int .u8 a0, .int .u8 a1, .int .u8 a2, .int .u8 a3] 2 a2 rfl
  have p3 := hp #[.int .u8 a0, .int .u8 a1, .int .u8 a2, .int .u8 a3] 3 a3 rfl
  have r0 := hp #[.int .u8 b0, .int .u8 b1, .int .u8 b2, .int .u8 b3] 0 b0 rfl
  have r1 := hp #[.int .u8 b0, .int .u8 b1, .int .u8 b2, .int .u8 b3] 1 b1 rfl
  have r2 := hp #[.int .u8 b0, .int .u8 b1, .int .u8 b2, .int .u8 b3] 2 b2 rfl
  have r3 := hp #[.int .u8 b0, .int .u8 b1, .int .u8 b2, .int .u8 b3] 3 b3 rfl
  clear hp
  simp [run_underlying ht, hsz, Std.Legacy.Range.forIn_eq_forIn_range', List.range', hi, p0, p1, p2, p3, r0, r1, r2, r3]
  by_cases h0 : a0 = b0 <;> by_cases h1 : a1 = b1 <;> by_cases h2 : a2 = b2 <;> by_cases h3 : a3 = b3 <;> simp [h0, h1, h2, h3]
theorem eq_arr4 {ρ : Operand → Value} {o : Oper} {t z e : TypeId} {x y : Operand} {a0 a1 a2 a3 b0 b1 b2 b3 : Int} {w : World} {q : Bool} (ho : o.op = .binOp .eql t x y z) (ht : P.underlying t = some (.array 4 e)) (he : P.underlying e = some (.int .u8)) (hs : (P.info? e).map (·.size) = some 1) (hg : P.eqGuardType P.depth t = false)
    (hx : ρ x = .agg #[.int .u8 a0, .int .u8 a1, .int .u8 a2, .int .u8 a3]) (hy : ρ y = .agg #[.int .u8 b0, .int .u8 b1, .int .u8 b2, .int .u8 b3]) (h : decide ([a0, a1, a2, a3] = [b0, b1, b2, b3]) = q) : (execOp ρ o).run P w = .ok (.value (.bool q)) w := by
  have h1 := arr4_equal t e ht he hs a0 a1 a2 a3 b0 b1 b2 b3 w
  have h2 := run_eql_struct (P := P) w t #[.int .u8 a0, .int .u8 a1, .int .u8 a2, .int .u8 a3] #[.int .u8 b0, .int .u8 b1, .int .u8 b2, .int .u8 b3]
  rw [h1] at h2
  subst h
  unfold execOp
  have h3 := run_eqGuard_agg (P := P) w .eql t x y #[.int .u8 a0, .int .u8 a1, .int .u8 a2, .int .u8 a3] #[.int .u8 b0, .int .u8 b1, .int .u8 b2, .int .u8 b3] hg
  simp only [ho, hx, hy, Sem.run_bind, h3, Result.andThen_ok, h2, Sem.run_pure]
theorem Has.loadAt {w : World} {g : Nat} {cs : Array Value} {t : TypeId} {fz : Nat × Nat} (h : Has w g (.cells cs t fz)) (off : Nat) (l : List Value) (hl : ∀ j v, l[j]? = some v → cs[off + j]? = some v) (ty : TypeId) {d : TypeDesc} (hu : P.underlying ty = some d) (hd : d.isRow = true) (hi : (P.info? ty).map (·.size) = some l.length) :
    (loadVar ty ⟨g, off, none⟩).run P w = .ok (.agg l.toArray) w :=
  run_loadVar_mid (P := P) w g off ty l d (fun j v hj => h.cell (off + j) (hl j v hj)) hu hd hi
theorem ex_loadAt {ρ : Operand → Value} {o : Oper} {ty : TypeId} {x : Operand} {b k : Nat} {v : Value} {w : World} (ho : o.op = .load ty x) (hx : ρ x = .pointer (some ⟨b, k, none⟩)) (h : (loadVar ty ⟨b, k, none⟩).run P w = .ok v w) : (execOp ρ o).run P w = .ok (.value v) w := by
  unfold execOp
  simp only [ho, hx, Instr.loadAt, Instr.sureAddr, Sem.run_bind, Sem.run_pure, h, Result.andThen_ok]
end
end Go.Proofs.Ytndmmkadceobjaa
