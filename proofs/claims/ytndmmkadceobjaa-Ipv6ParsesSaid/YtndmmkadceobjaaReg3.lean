/-
  A plain region, operation by operation; what is left when a chain of '&&' has met a false.
-/
import Derived.Test.YtndmmkadceobjaaReg2
namespace Go.Proofs.Ytndmmkadceobjaa
open Go.RowKit

section
variable {P : Program}
def SHas (g : Nat) (o : Obj) (w : World) : Prop := Has w g o
theorem tk_store1 {md : Region.Mode} {ops : Array Oper} {Q : Exit → Act → World → Prop} {S : World → Prop} {i : Nat} {o : Oper} {ty : TypeId} {x y : Operand} {g k : Nat} {v old : Value} {fuel : Nat} {listed : Array Bool} {a : Act} {w : World} (hr : Region.ready md ops listed = [i]) (hi : ops.toList[i]? = some o) (hw : Region.wanted o (yielded ops a.tmps) = true)
    (ho : o.op = .store ty x y) (hx : a.eval x = .pointer (some ⟨g, k, none⟩)) (hy : a.eval y = v) (h1 : v.cells = #[v]) (hti : (P.info? ty).map (·.size) = some 1) (hc : w.cell? ⟨g, k, none⟩ = some old) (hf : w.frozen? ⟨g, k, none⟩ = false) (h2 : v.oneCell' = true)
    (hS : S (w.setCell ⟨g, k, none⟩ v)) (h : wpAnyH P md ops Q S fuel (listed.setIfInBounds i true) (a.put o.dst undef) (w.setCell ⟨g, k, none⟩ v)) : wpAnyH P md ops Q S (fuel + 1) listed a w :=
  wpAnyH_all hr (by simp) fun j hj => by
    obtain rfl : j = i := by simpa using hj
    have hi : ops[j]? = some o := by simpa using hi
    have hsz : (sizeOf ty).run P w = .ok 1 w := by
      cases hq : P.info? ty with
      | none => simp [hq] at hti
      | some i => simp [hq] at hti; simp [sizeOf, typeInfo, hq, hti]
    unfold wpOp
    rw [hi]
    simp only [hw, if_true]
    left
    have hst : (store ⟨g, k, none⟩ v).run P w = .ok () (w.setCell ⟨g, k, none⟩ v) := by rw [run_store P w _ v _ h2, hc]; simp [hf]
    have had : (⟨g, k, none⟩ : Addr).add 0 = ⟨g, k, none⟩ := by simp [Addr.add]
    unfold Oper.wp execOp
    simp only [ho, hx, hy, Instr.storeAt, Instr.sureAddr, Sem.run_bind, Sem.run_pure, Result.andThen_ok]
    have hsv : (storeVar ty ⟨g, k, none⟩ v).run P w = .ok () (w.setCell ⟨g, k, none⟩ v) := by simp [storeVar, hsz, h1, storeCells, had, hst]
    simp only [hsv, Result.andThen_ok, Oper.upon_skip]
    exact ⟨hS, h⟩
theorem ex_len {ρ : Operand → Value} {o : Oper} {t e : TypeId} {x : Operand} {A : Option Addr} {n c : Nat} {w : World} (ho : o.op = .call { callee := .builtin .len, args := #[x], argTypes := #[t] }) (ht : P.underlying t = some (.slice e)) (hx : ρ x = .slice A n c) : (execOp ρ o).run P w = .ok (.value (.int .i64 (n : Int))) w := by
  unfold execOp
  simp [ho, resolve, invoke, builtin, Builtin.len_, hx, run_underlying ht]
  rfl
theorem wl {ops : Array Oper} {rest : List Oper} {o : Oper} {a : Act} {w : World} {Q : Exit → Act → World → Prop} (v : Value) (hw : Region.wanted o (yielded ops a.tmps) = true) (hv : (execOp a.eval o).run P w = .ok (.value v) w)
    (h : wpList P ops Q rest (a.put o.dst v) w) : wpList P ops Q (o :: rest) a w :=
  wpList_step fun K hK => by
    rw [if_pos hw]
    unfold Oper.wp
    rw [hv]
    exact hK _ _ h
theorem wl_box {ops : Array Oper} {rest : List Oper} {o : Oper} {a : Act} {w : World} {Q : Exit → Act → World → Prop} (t : TypeId) (x : Operand) (cs : Array Value) (hg : o.guard = none) (ho : o.op = .box t x) (hx : a.eval x = .agg cs)
    (h : wpList P ops Q rest (a.put o.dst (.pointer (some ⟨w.heap.size, 0, none⟩))) (w.alloc (.cells cs t))) : wpList P ops Q (o :: rest) a w :=
  wpList_plain hg fun K hK => by
    unfold Oper.wp execOp
    simp only [ho, hx]
    exact hK _ _ h
theorem wl_call {ops : Array Oper} {rest : List Oper} {o : Oper} {a : Act} {w : World} {Q : Exit → Act → World → Prop} {k : Nat} {args : Array Value} (v : Value) (hw : Region.wanted o (yielded ops a.tmps) = true) (hrun : (execOp a.eval o).run P w = .ok (.enter k args) w)
    (hc : Calls P k args w fun e w' => e = .returned v ∧ w = w') (h : wpList P ops Q rest (a.put o.dst v) w) : wpList P ops Q (o :: rest) a w :=
  wpList_step fun K hK => by
    rw [if_pos hw]
    unfold Oper.wp
    rw [hrun, Oper.upon_enter]
    refine hc.mono fun e w' ⟨he, hw'⟩ => ?_
    subst he hw'
    exact hK _ _ h

/-- moves, picks, and what no guard lets in -/
def skipRun (ops : Array Oper) : List Oper → Array Value → Option (Array Value)
  | [], t => some t
  | o :: rest, t =>
    if Region.wanted o (yielded ops t) = true then
      match o.op with
      | .move x => skipRun ops rest ((⟨t, []⟩ : Act).put o.dst ((⟨t, []⟩ : Act).eval x)).tmps
      | .assign x => skipRun ops rest ((⟨t, []⟩ : Act).put o.dst ((⟨t, []⟩ : Act).eval x)).tmps
      | .pick c x y => match (⟨t, []⟩ : Act).eval c with
        | .bool b => skipRun ops rest ((⟨t, []⟩ : Act).put o.dst (if b then (⟨t, []⟩ : Act).eval x else (⟨t, []⟩ : Act).eval y)).tmps
        | _ => none
      | _ => none
    else skipRun ops rest ((⟨t, []⟩ : Act).put o.dst undef).tmps
theorem put_tmps (t : Array Value) (d : Option Tmp) (v : Value) : (⟨t, []⟩ : Act).put d v = ⟨((⟨t, []⟩ : Act).put d v).tmps, []⟩ := by
  cases d <;> rfl
theorem skip_ok {ops : Array Oper} {w : World} {Q : Exit → Act → World → Prop} {t' : Array Value} : ∀ (rest : List Oper) (t : Array Value), skipRun ops rest t = some t' → Q .normal ⟨t', []⟩ w → wpList P ops Q rest ⟨t, []⟩ w
  | [], t, h, hq => by
    simp only [skipRun, Option.some.injEq] at h
    subst h
    exact hq
  | o :: rest, t, h, hq => by
    unfold skipRun at h
    refine wpList_step fun K hK => ?_
    split at h
    · rename_i hw
      rw [if_pos hw]
      unfold Oper.wp execOp
      split at h
      · rename_i x hx
        simp only [hx]
        refine hK _ _ ?_
        rw [put_tmps]
        exact skip_ok rest _ h hq
      · rename_i x hx
        simp only [hx]
        refine hK _ _ ?_
        rw [put_tmps]
        exact skip_ok rest _ h hq
      · rename_i c x y hx
        split at h
        · rename_i b hb
          simp only [hx, hb]
          refine hK _ _ ?_
          rw [put_tmps]
          exact skip_ok rest _ h hq
        · cases h
      · cases h
    · rename_i hw
      rw [if_neg hw]
      refine hK _ _ ?_
      rw [put_tmps]
      exact skip_ok rest _ h hq
theorem ex_field {ρ : Operand → Value} {o : Oper} {s : TypeId} {x : Operand} {k g : Nat} {fs : Array Field} {f : Field} {w : World} (off m : Nat) (ho : o.op = .fieldAddr s x k) (hs : P.underlying s = some (.struct fs)) (hf : fs[k]? = some f) (hoff : f.offset = off) (hz : (P.info? f.type).map (·.size) = some (m + 1)) (hx : ρ x = .pointer (some ⟨g, 0, none⟩)) :
    (execOp ρ o).run P w = .ok (.value (.pointer (some ⟨g, off, none⟩))) w := by
  have hsz : (sizeOf f.type).run P w = .ok (m + 1) w := by
    cases hq : P.info? f.type with
    | none => simp [hq] at hz
    | some i => simp [hq] at hz; simp [sizeOf, typeInfo, hq, hz]
  subst hoff
  unfold execOp
  simp [ho, hx, Instr.fieldAt, run_underlying hs, hf, Instr.sureAddr, fieldPlace, hsz, Go.WideShapes.add_plain]
theorem eq_int_eq {ρ : Operand → Value} {o : Oper} {t z : TypeId} {k : IntKind} {x y : Operand} {m n : Int} {w : World} (ho : o.op = .binOp .eql t x y z) (hx : ρ x = .int k m) (hy : ρ y = .int k n) (h : m = n) : (execOp ρ o).run P w = .ok (.value (.bool true)) w := by
  rw [ex_eq_int ho hx hy]; simp [h]
theorem eq_str_eq {ρ : Operand → Value} {o : Oper} {t z : TypeId} {x y : Operand} {s s' : ByteArray} {w : World} (ho : o.op = .binOp .eql t x y z) (hx : ρ x = .string s) (hy : ρ y = .string s') (h : s = s') : (execOp ρ o).run P w = .ok (.value (.bool true)) w := by
  rw [ex_eq_str ho hx hy]; simp [h]
theorem ex_eq_bool {ρ : Operand → Value} {o : Oper} {t z : TypeId} {x y : Operand} {b b' : Bool} {w : World} (ho : o.op = .binOp .eql t x y z) (ht : P.underlying t = some .bool) (hx : ρ x = .bool b) (hy : ρ y = .bool b') : (execOp ρ o).run P w = .ok (.value (.bool (b == b'))) w := by
  have he : (Op.equal t (.bool b) (.bool b')).run P w = .ok (b == b') w := run_equalIn_bool w 9999 t b b' ht
  unfold execOp
  simp [ho, hx, hy, eqGuard, binOp, he]
theorem eq_bool_eq {ρ : Operand → Value} {o : Oper} {t z : TypeId} {x y : Operand} {b b' : Bool} {w : World} (ho : o.op = .binOp .eql t x y z) (ht : P.underlying t = some .bool) (hx : ρ x = .bool b) (hy : ρ y = .bool b') (h : b = b') : (execOp ρ o).run P w = .ok (.value (.bool true)) w := by
  rw [ex_eq_bool ho ht hx hy]; simp [h]
theorem eq_bool_ne {ρ : Operand → Value} {o : Oper} {t z : TypeId} {x y : Operand} {b b' : Bool} {w : World} (ho : o.op = .binOp .eql t x y z) (ht : P.underlying t = some .bool) (hx : ρ x = .bool b) (hy : ρ y = .bool b') (h : b ≠ b') : (execOp ρ o).run P w = .ok (.value (.bool false)) w := by
  rw [ex_eq_bool ho ht hx hy]; simp [h]
theorem res_tmp {fn : Func} {tmps : Array Value} {a : Nat} {v : Value} {w : World} (hr : fn.results = #[.tmp a]) (hx : tmps.getD a undef = v) : (results fn tmps).run P w = .ok v w := by
  rw [Array.getD_eq_getD_getElem?] at hx
  simp [results, hr, hx]
theorem eq_int_ne {ρ : Operand → Value} {o : Oper} {t z : TypeId} {k : IntKind} {x y : Operand} {m n : Int} {w : World} (ho : o.op = .binOp .eql t x y z) (hx : ρ x = .int k m) (hy : ρ y = .int k n) (h : m ≠ n) : (execOp ρ o).run P w = .ok (.value (.bool false)) w := by
  rw [ex_eq_int ho hx hy]; simp [h]
theorem eq_str_ne {ρ : Operand → Value} {o : Oper} {t z : TypeId} {x y : Operand} {s s' : ByteArray} {w : World} (ho : o.op = .binOp .eql t x y z) (hx : ρ x = .string s) (hy : ρ y = .string s') (h : (s.toList == s'.toList) = false) : (execOp ρ o).run P w = .ok (.value (.bool false)) w := by
  rw [ex_eq_str ho hx hy, h]
end
end Go.Proofs.Ytndmmkadceobjaa
