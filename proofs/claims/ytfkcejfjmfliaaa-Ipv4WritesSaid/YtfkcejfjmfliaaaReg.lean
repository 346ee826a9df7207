/-
  A region that draws its order, taken operation by operation under a condition S that every operation keeps: the moves as plain lemmas (each costs little where the frame is wide).
-/
import Derived.Test.YtfkcejfjmfliaaaMem
import Derived.Deep.RegionHeld3
import Derived.Deep.MidRow
namespace Go.Proofs.Ytfkcejfjmfliaaa
open Go.RowKit

section
variable {P : Program} {md : Region.Mode} {ops : Array Oper} {Q : Exit → Act → World → Prop} {S : World → Prop}
/-- take number i: it yields v in every world that meets S -/
theorem tk {i : Nat} {o : Oper} (v : Value) {fuel : Nat} {listed : Array Bool} {a : Act} {w : World} (hS : S w) (hi : ops.toList[i]? = some o)
    (hs : Region.noSelect ops = true) (hf : Region.free md ops listed i = true) (hr : (Region.ready md ops listed).contains i = true)
    (hQ : ∀ c a w, Q (.panic c) (a.put o.dst v) w → Q (.panic c) a w) (hw : Region.wanted o (yielded ops a.tmps) = true) (hv : ∀ w, S w → (execOp a.eval o).run P w = .ok (.value v) w)
    (h : wpAnyH P md ops Q S fuel (listed.setIfInBounds i true) (a.put o.dst v) w) : wpAnyH P md ops Q S (fuel + 1) listed a w := wpAnyH_take (by simpa using hi) hs hf hr hQ (.inl ⟨hw, hv⟩) hS h
/-- take number i, whose guard does not hold -/
theorem tkn {i : Nat} {o : Oper} {fuel : Nat} {listed : Array Bool} {a : Act} {w : World} (hS : S w) (hi : ops.toList[i]? = some o)
    (hs : Region.noSelect ops = true) (hf : Region.free md ops listed i = true) (hr : (Region.ready md ops listed).contains i = true)
    (hQ : ∀ c a w, Q (.panic c) (a.put o.dst undef) w → Q (.panic c) a w) (hw : Region.wanted o (yielded ops a.tmps) = false)
    (h : wpAnyH P md ops Q S fuel (listed.setIfInBounds i true) (a.put o.dst undef) w) : wpAnyH P md ops Q S (fuel + 1) listed a w := wpAnyH_take (by simpa using hi) hs hf hr hQ (.inr ⟨hw, rfl⟩) hS h
theorem op_call {i k : Nat} {o : Oper} {args : Array Value} (v : Value) {fuel : Nat} {listed : Array Bool} {a : Act} {w : World} (hS : S w) (hi : ops.toList[i]? = some o) (hw : Region.wanted o (yielded ops a.tmps) = true)
    (hrun : (execOp a.eval o).run P w = .ok (.enter k args) w) (hc : ∀ w, S w → Calls P k args w fun e w' => e = .returned v ∧ S w')
    (h : ∀ w', S w' → wpAnyH P md ops Q S fuel (listed.setIfInBounds i true) (a.put o.dst v) w') : wpOp P ops Q i (fun a' w' => S w' ∧ wpAnyH P md ops Q S fuel (listed.setIfInBounds i true) a' w') a w := by
  have hi : ops[i]? = some o := by simpa using hi
  unfold wpOp
  rw [hi]
  simp only [hw, if_true]
  left
  unfold Oper.wp
  rw [hrun, Oper.upon_enter]
  refine (hc w hS).mono fun e w' ⟨he, hS'⟩ => ?_
  subst he
  exact ⟨hS', h w' hS'⟩
/-- number i alone is ready, a call of a Go function -/
theorem tk_call {i k : Nat} {o : Oper} {args : Array Value} (v : Value) {fuel : Nat} {listed : Array Bool} {a : Act} {w : World} (hS : S w) (hr : Region.ready md ops listed = [i]) (hi : ops.toList[i]? = some o) (hw : Region.wanted o (yielded ops a.tmps) = true)
    (hrun : (execOp a.eval o).run P w = .ok (.enter k args) w) (hc : ∀ w, S w → Calls P k args w fun e w' => e = .returned v ∧ S w')
    (h : ∀ w', S w' → wpAnyH P md ops Q S fuel (listed.setIfInBounds i true) (a.put o.dst v) w') : wpAnyH P md ops Q S (fuel + 1) listed a w :=
  wpAnyH_all hr (by simp) fun j hj => by
    obtain rfl : j = i := by simpa using hj
    exact op_call v hS hi hw hrun hc h
/-- two calls are ready -/
theorem tk_call2 {i j k k' : Nat} {o o' : Oper} {args args' : Array Value} (v v' : Value) {fuel : Nat} {listed : Array Bool} {a : Act} {w : World} (hS : S w) (hr : Region.ready md ops listed = [i, j])
    (hi : ops.toList[i]? = some o) (hw : Region.wanted o (yielded ops a.tmps) = true) (hrun : (execOp a.eval o).run P w = .ok (.enter k args) w) (hc : ∀ w, S w → Calls P k args w fun e w' => e = .returned v ∧ S w')
    (hi' : ops.toList[j]? = some o') (hw' : Region.wanted o' (yielded ops a.tmps) = true) (hrun' : (execOp a.eval o').run P w = .ok (.enter k' args') w) (hc' : ∀ w, S w → Calls P k' args' w fun e w' => e = .returned v' ∧ S w')
    (h : ∀ w', S w' → wpAnyH P md ops Q S fuel (listed.setIfInBounds i true) (a.put o.dst v) w') (h' : ∀ w', S w' → wpAnyH P md ops Q S fuel (listed.setIfInBounds j true) (a.put o'.dst v') w') : wpAnyH P md ops Q S (fuel + 1) listed a w :=
  wpAnyH_all hr (by simp) fun n hn => by
    rcases List.mem_cons.1 hn with rfl | hn
    · exact op_call v hS hi hw hrun hc h
    · obtain rfl : n = j := by simpa using hn
      exact op_call v' hS hi' hw' hrun' hc' h'
theorem ex_call {a : Act} {o : Oper} {k : Nat} {xs : Array Operand} {ats : Array TypeId} {args : Array Value} {fn : Func} {w : World} (ho : o.op = .call { callee := .value (.func k), args := xs, argTypes := ats }) (hf : P.funcs[k]? = some fn) (hn : (fn.name == "runtime.NumGoroutine") = false) (hb : fn.body.isNone = false)
    (hx : (xs.map a.eval) = args) : (execOp a.eval o).run P w = .ok (.enter k args) w := by
  subst hx
  have h1 : fn.name ≠ "runtime.NumGoroutine" := by simpa using hn
  obtain ⟨c, hc1⟩ : ∃ c, fn.body = some c := Option.isSome_iff_exists.1 (by simpa [Option.isNone_iff_eq_none, Option.isSome_iff_ne_none] using hb)
  have hc : ∀ args, (callFunc k args).run P w = .ok (.enter k args) w := fun args => by simp [callFunc, hf, h1, hc1]
  unfold execOp
  simp only [ho]
  have := hc (#[] ++ xs.map a.eval ++ #[])
  rw [Array.empty_append, Array.append_empty] at this
  rw [← this]
  simp [resolve, Deferred.ofValue, invoke, Act.eval]
theorem ex_conv {ρ : Operand → Value} {o : Oper} {src dst : TypeId} {x : Operand} {u v : Value} {w : World} (ho : o.op = .convert src dst x) (hx : ρ x = u) (h : (convert src dst u).run P w = .ok v w) : (execOp ρ o).run P w = .ok (.value v) w := by
  unfold execOp
  simp only [ho, hx, Sem.run_bind, Sem.run_pure, h, Result.andThen_ok]
theorem ex_load {ρ : Operand → Value} {o : Oper} {ty : TypeId} {x : Operand} {b : Nat} {v : Value} {w : World} (ho : o.op = .load ty x) (hx : ρ x = .pointer (some ⟨b, 0, none⟩)) (h : (loadVar ty ⟨b, 0, none⟩).run P w = .ok v w) : (execOp ρ o).run P w = .ok (.value v) w := by
  unfold execOp
  simp only [ho, hx, Instr.loadAt, Instr.sureAddr, Sem.run_bind, Sem.run_pure, h, Result.andThen_ok]
theorem ex_eq_str {ρ : Operand → Value} {o : Oper} {t z : TypeId} {x y : Operand} {s s' : ByteArray} {w : World} (ho : o.op = .binOp .eql t x y z) (hx : ρ x = .string s) (hy : ρ y = .string s') : (execOp ρ o).run P w = .ok (.value (.bool (s.toList == s'.toList))) w := by
  unfold execOp
  simp [ho, hx, hy, eqGuard, binOp, Op.stringOp]
theorem ex_eq_int {ρ : Operand → Value} {o : Oper} {t z : TypeId} {k : IntKind} {x y : Operand} {m n : Int} {w : World} (ho : o.op = .binOp .eql t x y z) (hx : ρ x = .int k m) (hy : ρ y = .int k n) : (execOp ρ o).run P w = .ok (.value (.bool (m == n))) w := by
  unfold execOp
  simp [ho, hx, hy, eqGuard, binOp, Op.intCmp]
theorem eq_str_self {ρ : Operand → Value} {o : Oper} {t z : TypeId} {x y : Operand} {s : ByteArray} {w : World} (ho : o.op = .binOp .eql t x y z) (hx : ρ x = .string s) (hy : ρ y = .string s) : (execOp ρ o).run P w = .ok (.value (.bool true)) w := by
  rw [ex_eq_str ho hx hy]; simp
theorem eq_int_self {ρ : Operand → Value} {o : Oper} {t z : TypeId} {k : IntKind} {x y : Operand} {m : Int} {w : World} (ho : o.op = .binOp .eql t x y z) (hx : ρ x = .int k m) (hy : ρ y = .int k m) : (execOp ρ o).run P w = .ok (.value (.bool true)) w := by
  rw [ex_eq_int ho hx hy]; simp
/-- a whole row loaded -/
theorem Has.load {w : World} {g : Nat} {cs : Array Value} {t : TypeId} {fz : Nat × Nat} (h : Has w g (.cells cs t fz)) (ty : TypeId) {d : TypeDesc} (hu : P.underlying ty = some d) (hd : d.isRow = true) (hi : (P.info? ty).map (·.size) = some cs.size) :
    (loadVar ty ⟨g, 0, none⟩).run P w = .ok (.agg cs) w := by
  have := run_loadVar_mid (P := P) w g 0 ty cs.toList d (fun j v hj => by rw [Nat.zero_add]; exact h.cell j (by simpa using hj)) hu hd (by simpa using hi)
  simpa using this
end
end Go.Proofs.Ytfkcejfjmfliaaa
