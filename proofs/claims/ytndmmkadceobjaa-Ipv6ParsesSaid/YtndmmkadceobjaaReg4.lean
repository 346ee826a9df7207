/-
  More moves in a region: a slice literal of two, an array's whole slice, an extract, unlike numbers.
-/
import Derived.Test.YtndmmkadceobjaaReg3
import Derived.Great.BuildSlice
namespace Go.Proofs.Ytndmmkadceobjaa
open Go.RowKit

section
variable {P : Program}
/-- number i alone is ready: a slice literal -/
theorem tk_build {md : Region.Mode} {ops : Array Oper} {Q : Exit → Act → World → Prop} {S : World → Prop} {i : Nat} {o : Oper} {t e : TypeId} {len : Nat} {parts : Array (Nat × Operand)} {fuel : Nat} {listed : Array Bool} {a : Act} {w : World} (vs : List Value) (hr : Region.ready md ops listed = [i]) (hi : ops.toList[i]? = some o) (hw : Region.wanted o (yielded ops a.tmps) = true)
    (ho : o.op = .buildSlice t len parts) (hu : P.underlying t = some (.slice e)) (hsz : (P.info? e).map (·.size) = some 1) (hz : ((P.info? e).bind (·.zero)).isSome = true) (hlen : len = vs.length) (hpos : 0 < len) (hsmall : len ≤ 2 ^ 24)
    (hp : (parts.map fun (i, x) => (i, a.eval x)).toList = (vs.zipIdx 0).map fun x => (x.2, x.1)) (h1 : ∀ v ∈ vs, v.cells = #[v])
    (hS : S (w.alloc (.cells vs.toArray e))) (h : wpAnyH P md ops Q S fuel (listed.setIfInBounds i true) (a.put o.dst (.slice (some ⟨w.heap.size, 0, none⟩) len len)) (w.alloc (.cells vs.toArray e))) : wpAnyH P md ops Q S (fuel + 1) listed a w :=
  wpAnyH_all hr (by simp) fun j hj => by
    obtain rfl : j = i := by simpa using hj
    have hi : ops[j]? = some o := by simpa using hi
    unfold wpOp
    rw [hi]
    simp only [hw, if_true]
    left
    cases hie : P.info? e with
    | none => simp [hie] at hsz
    | some ie =>
      simp only [hie, Option.map_some, Option.some.injEq, Option.bind_some] at hsz hz
      obtain ⟨z, hzz⟩ := Option.isSome_iff_exists.1 hz
      refine wp_buildSlice t e len parts ho _ ie z hu hie hzz (by rw [hsz]; omega) (by rw [hsz]; omega) ?_ ⟨hS, h⟩
      rw [hp, hsz]
      exact Great.fill_flat _ _ h1 (by simp [hlen])
theorem ex_arr {ρ : Operand → Value} {o : Oper} {t e : TypeId} {x : Operand} {g k n : Nat} {w : World} (ho : o.op = .slice t x none none none) (ht : P.underlying t = some (.array n e)) (hs : (P.info? e).map (·.size) = some 1) (hx : ρ x = .pointer (some ⟨g, k, none⟩)) :
    (execOp ρ o).run P w = .ok (.value (.slice (some ⟨g, k, none⟩) n n)) w := by
  have he : P.elem t = e := by simp [Program.elem, ht]
  have hn : P.arrayLen t = n := by simp [Program.arrayLen, ht]
  have hsz : (sizeOf e).run P w = .ok 1 w := by
    cases hq : P.info? e with
    | none => simp [hq] at hs
    | some i => simp [hq] at hs; simp [sizeOf, typeInfo, hq, hs]
  refine ex_slice ho hx ?_
  have := run_sliceAt_array_all (P := P) w t ⟨g, k, none⟩ (by rw [hn, he]; exact ht)
  simp only [Option.map_none]
  rw [this, he, hsz, hn]
  simp [slicedAt, Result.andThen, Addr.add]
theorem ex_neq_int {ρ : Operand → Value} {o : Oper} {t z : TypeId} {k : IntKind} {x y : Operand} {m n : Int} {w : World} (ho : o.op = .binOp .neq t x y z) (hx : ρ x = .int k m) (hy : ρ y = .int k n) : (execOp ρ o).run P w = .ok (.value (.bool (m != n))) w := by
  unfold execOp
  simp [ho, hx, hy, eqGuard, binOp, Op.intCmp]
theorem neq_int_eq {ρ : Operand → Value} {o : Oper} {t z : TypeId} {k : IntKind} {x y : Operand} {m n : Int} {w : World} (ho : o.op = .binOp .neq t x y z) (hx : ρ x = .int k m) (hy : ρ y = .int k n) (h : m = n) : (execOp ρ o).run P w = .ok (.value (.bool false)) w := by
  rw [ex_neq_int ho hx hy]; simp [h]
theorem neq_int_ne {ρ : Operand → Value} {o : Oper} {t z : TypeId} {k : IntKind} {x y : Operand} {m n : Int} {w : World} (ho : o.op = .binOp .neq t x y z) (hx : ρ x = .int k m) (hy : ρ y = .int k n) (h : m ≠ n) : (execOp ρ o).run P w = .ok (.value (.bool true)) w := by
  rw [ex_neq_int ho hx hy]; simp [h]
theorem add_i64 (t : TypeId) (x y : Int) (h : -9223372036854775808 ≤ x + y ∧ x + y < 9223372036854775808) (w : World) : (binOp .add t (.int .i64 x) (.int .i64 y)).run P w = .ok (.int .i64 (x + y)) w := by
  have h1 := h.1
  have h2 := h.2
  clear h
  go_simp
  exact IntWalk.i64_in _ (by omega)
end
end Go.Proofs.Ytndmmkadceobjaa
