/-
  Rows of pairs: the address of one, of its fields.
-/
import Derived.Test.YtndmmkadceobjaaOpt
import Derived.Test.YtndmmkadceobjaaReg3
namespace Go.Proofs.Ytndmmkadceobjaa
open Go.RowKit

section
variable {P : Program}
theorem ex_index2 {ρ : Operand → Value} {o : Oper} {t e : TypeId} {x ix : Operand} {b off n c k : Nat} {w : World} (ho : o.op = .indexAddr t x ix) (ht : P.underlying t = some (.slice e)) (hs : (P.info? e).map (·.size) = some 2) (hx : ρ x = .slice (some ⟨b, off, none⟩) n c) (hi : ρ ix = .int .i64 (k : Int)) (hk : k < n) :
    (execOp ρ o).run P w = .ok (.value (.pointer (some ⟨b, off + k * 2, none⟩))) w := by
  have hsz : (sizeOf e).run P w = .ok 2 w := by
    cases hq : P.info? e with
    | none => simp [hq] at hs
    | some i => simp [hq] at hs; simp [sizeOf, typeInfo, hq, hs]
  unfold execOp
  simp [ho, hx, hi, Instr.indexAt, run_underlying ht, hsz, hk, Go.WideShapes.add_plain, asIntOf]
theorem ex_field0 {ρ : Operand → Value} {o : Oper} {s : TypeId} {x : Operand} {k g q : Nat} {fs : Array Field} {f : Field} {w : World} (ho : o.op = .fieldAddr s x k) (hs : P.underlying s = some (.struct fs)) (hf : fs[k]? = some f) (hoff : f.offset = 0) (hz : (P.info? f.type).map (·.size) = some 1) (hx : ρ x = .pointer (some ⟨g, q, none⟩)) :
    (execOp ρ o).run P w = .ok (.value (.pointer (some ⟨g, q, none⟩))) w := by
  have hsz : (sizeOf f.type).run P w = .ok 1 w := by
    cases hq : P.info? f.type with
    | none => simp [hq] at hz
    | some i => simp [hq] at hz; simp [sizeOf, typeInfo, hq, hz]
  unfold execOp
  simp [ho, hx, Instr.fieldAt, run_underlying hs, hf, Instr.sureAddr, fieldPlace, hsz, Go.WideShapes.add_plain, hoff]
theorem ex_field1 {ρ : Operand → Value} {o : Oper} {s : TypeId} {x : Operand} {k g q : Nat} {fs : Array Field} {f : Field} {w : World} (ho : o.op = .fieldAddr s x k) (hs : P.underlying s = some (.struct fs)) (hf : fs[k]? = some f) (hoff : f.offset = 1) (hz : (P.info? f.type).map (·.size) = some 1) (hx : ρ x = .pointer (some ⟨g, q, none⟩)) :
    (execOp ρ o).run P w = .ok (.value (.pointer (some ⟨g, q + 1, none⟩))) w := by
  have hsz : (sizeOf f.type).run P w = .ok 1 w := by
    cases hq : P.info? f.type with
    | none => simp [hq] at hz
    | some i => simp [hq] at hz; simp [sizeOf, typeInfo, hq, hz]
  unfold execOp
  simp [ho, hx, Instr.fieldAt, run_underlying hs, hf, Instr.sureAddr, fieldPlace, hsz, Go.WideShapes.add_plain, hoff]
end
theorem kdL_any {f : Int × List Int → Bool} {ps : List Kd} {k : Nat} {p : Kd} (h : ps[k]? = some p) : (kdL (ps.drop k)).any f = (f (p.1, p.2.2.2) || (kdL (ps.drop (k + 1))).any f) := by
  obtain ⟨hk, rfl⟩ := List.getElem?_eq_some_iff.1 h
  rw [List.drop_eq_getElem_cons hk]
  simp only [kdL, List.map_cons, List.any_cons]
theorem kdL_take {ps : List Kd} {k : Nat} {p : Kd} (h : ps[k]? = some p) : kdL (ps.take (k + 1)) = kdL (ps.take k) ++ [(p.1, p.2.2.2)] := by
  obtain ⟨hk, rfl⟩ := List.getElem?_eq_some_iff.1 h
  rw [List.take_succ_eq_append_getElem hk, kdL_append]
  rfl
end Go.Proofs.Ytndmmkadceobjaa
