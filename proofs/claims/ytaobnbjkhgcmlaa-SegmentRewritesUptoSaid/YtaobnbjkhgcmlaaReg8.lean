/-
  Moves in a region in the text's order, each by its own law: an empty slice literal, an append of bytes, a cell stored.
-/
import Derived.Test.YtaobnbjkhgcmlaaReg7
namespace Go.Proofs.Ytaobnbjkhgcmlaa
open Go.RowKit

section
variable {P : Program} {ops : Array Oper} {Q : Exit → Act → World → Prop}
theorem pl_build0 {rest : List Oper} {o : Oper} {a : Act} {w : World} {t : TypeId} (hg : o.guard = none) (ho : o.op = .buildSlice t 0 #[]) (hu : P.underlying t = some (.slice 5)) (hs : (P.info? 5).map (·.size) = some 1)
    (h : ∀ g w', OwnB w' w.heap.size (.slice (some ⟨g, 0, none⟩) 0 0) [] → Below w.heap.size w w' → wpList P ops Q rest (a.put o.dst (.slice (some ⟨g, 0, none⟩) 0 0)) w') : wpList P ops Q (o :: rest) a w :=
  wpList_plain hg fun K hK => by
    unfold Oper.wp execOp
    simp only [ho, Sem.run_bind, List.map_toArray, List.map_nil, run_build0 w t _ hu hs, Result.andThen_ok]
    exact hK _ _ (h _ _ (OwnB.made w w.heap.size (Nat.le_refl _)) ((Below.refl _ _).alloc (Nat.le_refl _) _))
theorem pl_app {rest : List Oper} {o : Oper} {a : Act} {w : World} (s x : Operand) (t : TypeId) (hg : o.guard = none)
    (ho : o.op = .call { callee := .builtin .append, args := #[s, x], argTypes := #[t, t] })
    (ht : P.underlying t = some (.slice 5)) (hinfo : (P.info? 5).map (fun i => (i.zero, i.size, i.bytes)) = some (some (.int .u8 0), 1, 1))
    (base : Nat) (v : Value) (l : List Int) (hs : a.eval s = v) (hown : OwnB w base v l)
    (B : Nat) (A : Option Addr) (m c : Nat) (l' : List Int) (hx : a.eval x = .slice A m c) (hy : By B w A m c l')
    (hbytes : l.length + m ≤ 140737488355328) (hbase : base ≤ w.heap.size)
    (h : ∀ v' w', OwnB w' base v' (l ++ l') → Below base w w' → wpList P ops Q rest (a.put o.dst v') w') : wpList P ops Q (o :: rest) a w :=
  wpList_appB w hg s x t ho ht hinfo base v l hs hown B A m c l' hx hy hbytes hbase fun v' w' h1 h2 _ => h v' w' h1 (below_app hown h2 hbase)
theorem pl_store1 {rest : List Oper} {o : Oper} {ty : TypeId} {x y : Operand} {g k : Nat} {v old : Value} {a : Act} {w : World} (hg : o.guard = none)
    (ho : o.op = .store ty x y) (hx : a.eval x = .pointer (some ⟨g, k, none⟩)) (hy : a.eval y = v) (h1 : v.cells = #[v]) (hti : (P.info? ty).map (·.size) = some 1) (hc : w.cell? ⟨g, k, none⟩ = some old) (hf : w.frozen? ⟨g, k, none⟩ = false) (h2 : v.oneCell' = true)
    (h : wpList P ops Q rest (a.put o.dst undef) (w.setCell ⟨g, k, none⟩ v)) : wpList P ops Q (o :: rest) a w :=
  wpList_plain hg fun K hK => by
    have hsz : (sizeOf ty).run P w = .ok 1 w := by
      cases hq : P.info? ty with
      | none => simp [hq] at hti
      | some i => simp [hq] at hti; simp [sizeOf, typeInfo, hq, hti]
    have hst : (store ⟨g, k, none⟩ v).run P w = .ok () (w.setCell ⟨g, k, none⟩ v) := by rw [run_store P w _ v _ h2, hc]; simp [hf]
    have had : (⟨g, k, none⟩ : Addr).add 0 = ⟨g, k, none⟩ := by simp [Addr.add]
    unfold Oper.wp execOp
    simp only [ho, hx, hy, Instr.storeAt, Instr.sureAddr, Sem.run_bind, Sem.run_pure, Result.andThen_ok]
    have hsv : (storeVar ty ⟨g, k, none⟩ v).run P w = .ok () (w.setCell ⟨g, k, none⟩ v) := by simp [storeVar, hsz, h1, storeCells, had, hst]
    simp only [hsv, Result.andThen_ok, Oper.upon_skip]
    exact hK _ _ h
end
end Go.Proofs.Ytaobnbjkhgcmlaa
