/-
  A region that draws its order, taken operation by operation under a condition S that every operation keeps: the moves as plain lemmas (each costs little where the frame is wide).
-/
import Derived.Test.YtndmmkadceobjaaMem2
import Derived.Deep.RegionHeld3
import Derived.Deep.MidRow
import Derived.BigFrame
namespace Go.Proofs.Ytndmmkadceobjaa
open Go.RowKit

section
variable {P : Program} {md : Region.Mode} {ops : Array Oper} {Q : Exit → Act → World → Prop} {S : World → Prop}
/-- take number i: it yields v in every world that meets S -/
theorem tk {i : Nat} {o : Oper} (v : Value) {fuel : Nat} {listed : Array Bool} {a : Act} {w : World} (hS : S w) (hi : ops.toList[i]? = some o)
    (hs : Region.noSelect ops = true) (hf : Region.free md ops listed i = true) (hr : (Region.ready md ops listed).contains i = true)
    (hQ : ∀ c a w, Q (.panic c) (a.put o.dst v) w → Q (.panic c) a w) (hw : Region.wanted o (yielded ops a.tmps) = true) (hv : ∀ w, S w → (execOp a.eval o).run P w = .ok (.value v) w)
    (h : wpAnyH P md ops Q S fuel (listed.setIfInBounds i true) (a.put o.dst v) w) : wpAnyH P md ops Q S (fuel + 1) listed a w := wpAnyH_take (by simpa using hi) hs hf hr hQ (.inl ⟨hw, hv⟩) hS h
/-- take number i, whose guard does not hold -/
theorem tkn {i : Nat} {o : Oper} {fuel : Nat} {listed : Array Bool} {a : Act} {w : World} (hS : S w) (hi : ops.toList[i]? = some o)
    (hs : Region.noSelect ops = true) (hf : Region.free md ops listed i = true) (hr : (Region.ready md ops listed).contains i = true)
    (hQ : ∀ c a w, Q (.panic c) (a.put o.dst undef) w → Q (.panic c) a w) (hw : Region.wanted o (yielded ops a.tmps) = false)
    (h : wpAnyH P md ops Q S fuel (listed.setIfInBounds i true) (a.put o.dst undef) w) : wpAnyH P md ops Q S (fuel + 1) listed a w := wpAnyH_take (by simpa using hi) hs hf hr hQ (.inr ⟨hw, rfl⟩) hS h
theorem op_call {i k : Nat} {o : Oper} {args : Array Value} (v : Value) {fuel : Nat} {listed : Array Bool} {a : Act} {w : World} (hi : ops.toList[i]? = some o) (hw : Region.wanted o (yielded ops a.tmps) = true)
    (hrun : (execOp a.eval o).run P w = .ok (.enter k args) w) (hc : Calls P k args w fun e w' => e = .returned v ∧ S w')
    (h : ∀ w', S w' → wpAnyH P md ops Q S fuel (listed.setIfInBounds i true) (a.put o.dst v) w') : wpOp P ops Q i (fun a' w' => S w' ∧ wpAnyH P md ops Q S fuel (listed.setIfInBounds i true) a' w') a w := by
  have hi : ops[i]? = some o := by simpa using hi
  unfold wpOp
  rw [hi]
  simp only [hw, if_true]
  left
  unfold Oper.wp
  rw [hrun, Oper.upon_enter]
  refine hc.mono fun e w' ⟨he, hS'⟩ => ?_
  subst he
  exact ⟨hS', h w' hS'⟩
/-- number i alone is ready, a call of a Go function -/
theorem tk_call {i k : Nat} {o : Oper} {args : Array Value} (v : Value) {fuel : Nat} {listed : Array Bool} {a : Act} {w : World} (hr : Region.ready md ops listed = [i]) (hi : ops.toList[i]? = some o) (hw : Region.wanted o (yielded ops a.tmps) = true)
    (hrun : (execOp a.eval o).run P w = .ok (.enter k args) w) (hc : Calls P k args w fun e w' => e = .returned v ∧ S w')
    (h : ∀ w', S w' → wpAnyH P md ops Q S fuel (listed.setIfInBounds i true) (a.put o.dst v) w') : wpAnyH P md ops Q S (fuel + 1) listed a w :=
  wpAnyH_all hr (by simp) fun j hj => by
    obtain rfl : j = i := by simpa using hj
    exact op_call v hi hw hrun hc h
theorem ex_call {a : Act} {o : Oper} {k : Nat} {xs : Array Operand} {ats : Array TypeId} {args : Array Value} {fn : Func} {w : World} (ho : o.op = .call { callee := .value (.func k), args := xs, argTypes := ats }) (hf : P.funcs[k]? = some fn) (hn : (fn.name == "runtime.NumGoroutine") = false) (hb : fn.body.isNone = false)
    (hx : (xs.map a.eval) = args) : (execOp a.eval o).run P w = .ok (.enter k args) w := by
  subst hx
  have h1 : fn.name ≠ "runtime.NumGoroutine" := by simpa using hn
  obtain ⟨c, hc1⟩ : ∃ c, fn.body = some c := Option.isSome_iff_exists.1 (by simpa [Option.isNone_iff_eq_none, Option.isSome_iff_ne_none] using hb)
  have hc : ∀ args, (callFunc k args).run P w = .ok (.enter k args) w := fun args => by simp [callFunc, hf, h1, hc1]
  unfold execOp
  simp only [ho]
  have := hc (#[] ++ xs.map a.eval ++ #[])
  rw [Array.empty_append, Array.append_empty] at this
  rw [← this]
  simp [resolve, Deferred.ofValue, invoke, Act.eval]
theorem ex_conv {ρ : Operand → Value} {o : Oper} {src dst : TypeId} {x : Operand} {u v : Value} {w : World} (ho : o.op = .convert src dst x) (hx : ρ x = u) (h : (convert src dst u).run P w = .ok v w) : (execOp ρ o).run P w = .ok (.value v) w := by
  unfold execOp
  simp only [ho, hx, Sem.run_bind, Sem.run_pure, h, Result.andThen_ok]
theorem ex_load {ρ : Operand → Value} {o : Oper} {ty : TypeId} {x : Operand} {b : Nat} {v : Value} {w : World} (ho : o.op = .load ty x) (hx : ρ x = .pointer (some ⟨b, 0, none⟩)) (h : (loadVar ty ⟨b, 0, none⟩).run P w = .ok v w) : (execOp ρ o).run P w = .ok (.value v) w := by
  unfold execOp
  simp only [ho, hx, Instr.loadAt, Instr.sureAddr, Sem.run_bind, Sem.run_pure, h, Result.andThen_ok]
theorem ex_eq_str {ρ : Operand → Value} {o : Oper} {t z : TypeId} {x y : Operand} {s s' : ByteArray} {w : World} (ho : o.op = .binOp .eql t x y z) (hx : ρ x = .string s) (hy : ρ y = .string s') : (execOp ρ o).run P w = .ok (.value (.bool (s.toList == s'.toList))) w := by
  unfold execOp
  simp [ho, hx, hy, eqGuard, binOp, Op.stringOp]
theorem ex_eq_int {ρ : Operand → Value} {o : Oper} {t z : TypeId} {k : IntKind} {x y : Operand} {m n : Int} {w : World} (ho : o.op = .binOp .eql t x y z) (hx : ρ x = .int k m) (hy : ρ y = .int k n) : (execOp ρ o).run P w = .ok (.value (.bool (m == n))) w := by
  unfold execOp
  simp [ho, hx, hy, eqGuard, binOp, Op.intCmp]
theorem eq_str_self {ρ : Operand → Value} {o : Oper} {t z : TypeId} {x y : Operand} {s : ByteArray} {w : World} (ho : o.op = .binOp .eql t x y z) (hx : ρ x = .string s) (hy : ρ y = .string s) : (execOp ρ o).run P w = .ok (.value (.bool true)) w := by
  rw [ex_eq_str ho hx hy]; simp
theorem eq_int_self {ρ : Operand → Value} {o : Oper} {t z : TypeId} {k : IntKind} {x y : Operand} {m : Int} {w : World} (ho : o.op = .binOp .eql t x y z) (hx : ρ x = .int k m) (hy : ρ y = .int k m) : (execOp ρ o).run P w = .ok (.value (.bool true)) w := by
  rw [ex_eq_int ho hx hy]; simp
theorem ex_index {ρ : Operand → Value} {o : Oper} {t e : TypeId} {x ix : Operand} {b off n c k : Nat} {w : World} (ho : o.op = .indexAddr t x ix) (ht : P.underlying t = some (.slice e)) (hs : (P.info? e).map (·.size) = some 1) (hx : ρ x = .slice (some ⟨b, off, none⟩) n c) (hi : ρ ix = .int .i64 (k : Int)) (hk : k < n) :
    (execOp ρ o).run P w = .ok (.value (.pointer (some ⟨b, off + k, none⟩))) w := by
  have hsz : (sizeOf e).run P w = .ok 1 w := by
    cases hq : P.info? e with
    | none => simp [hq] at hs
    | some i => simp [hq] at hs; simp [sizeOf, typeInfo, hq, hs]
  unfold execOp
  simp [ho, hx, hi, Instr.indexAt, run_underlying ht, hsz, hk, Go.WideShapes.add_plain, asIntOf]
/-- number i alone is ready: a whole row stored into a block of the call's own -/
theorem tk_store {i : Nat} {o : Oper} {ty : TypeId} {x y : Operand} {g : Nat} {cells : Array Value} {t : TypeId} {old : Array Value} {fuel : Nat} {listed : Array Bool} {a : Act} {w : World} (hr : Region.ready md ops listed = [i]) (hi : ops.toList[i]? = some o) (hw : Region.wanted o (yielded ops a.tmps) = true)
    (ho : o.op = .store ty x y) (hx : a.eval x = .pointer (some ⟨g, 0, none⟩)) (hy : a.eval y = .agg cells) (hg : Has w g (.cells old t (0, 0))) (hti : (P.info? ty).map (·.size) = some cells.size) (hold : old.size = cells.size) (h1 : cells.all (·.oneCell') = true)
    (hS : S (w.setRow g cells)) (h : wpAnyH P md ops Q S fuel (listed.setIfInBounds i true) (a.put o.dst undef) (w.setRow g cells)) : wpAnyH P md ops Q S (fuel + 1) listed a w :=
  wpAnyH_all hr (by simp) fun j hj => by
    obtain rfl : j = i := by simpa using hj
    have hi : ops[j]? = some o := by simpa using hi
    unfold wpOp
    rw [hi]
    simp only [hw, if_true]
    left
    exact wp_store_row ty x y ho g cells hx hy t old hg hti hold h1 ⟨hS, h⟩
theorem eq_bool_self {ρ : Operand → Value} {o : Oper} {t z : TypeId} {x y : Operand} {b : Bool} {w : World} (ho : o.op = .binOp .eql t x y z) (ht : P.underlying t = some .bool) (hx : ρ x = .bool b) (hy : ρ y = .bool b) : (execOp ρ o).run P w = .ok (.value (.bool true)) w := by
  have he : (Op.equal t (.bool b) (.bool b)).run P w = .ok (b == b) w := run_equalIn_bool w 9999 t b b ht
  rw [beq_self_eq_true] at he
  unfold execOp
  simp [ho, hx, hy, eqGuard, binOp, he]
/-- a whole row loaded -/
theorem Has.load {w : World} {g : Nat} {cs : Array Value} {t : TypeId} {fz : Nat × Nat} (h : Has w g (.cells cs t fz)) (ty : TypeId) {d : TypeDesc} (hu : P.underlying ty = some d) (hd : d.isRow = true) (hi : (P.info? ty).map (·.size) = some cs.size) :
    (loadVar ty ⟨g, 0, none⟩).run P w = .ok (.agg cs) w := by
  have := run_loadVar_mid (P := P) w g 0 ty cs.toList d (fun j v hj => by rw [Nat.zero_add]; exact h.cell j (by simpa using hj)) hu hd (by simpa using hi)
  simpa using this
theorem ex_cell {ρ : Operand → Value} {o : Oper} {ty : TypeId} {x : Operand} {b k : Nat} {v : Value} {w : World} {d : TypeDesc} (ho : o.op = .load ty x) (hu : P.underlying ty = some d) (hd : d.isRow = false) (hx : ρ x = .pointer (some ⟨b, k, none⟩)) (h : w.cell? ⟨b, k, none⟩ = some v) : (execOp ρ o).run P w = .ok (.value v) w := by
  have hagg : (isAgg ty).run P w = .ok false w := by
    unfold isAgg
    rw [Sem.run_bind, run_underlying hu w]
    cases d <;> simp_all [TypeDesc.isRow]
  have hl : (loadVar ty ⟨b, k, none⟩).run P w = .ok v w := by
    simp [loadVar, Sem.run_bind, hagg, h]
  unfold execOp
  simp only [ho, hx, Instr.loadAt, Instr.sureAddr, Sem.run_bind, Sem.run_pure, hl, Result.andThen_ok]
theorem OwnB.setRow {w : World} {base g : Nat} {v : Value} {l : List Int} {cs : Array Value} (h : OwnB w base v l) (hg : g < base) : OwnB (w.setRow g cs) base v l := by
  refine ⟨⟨h.own.1, ?_⟩, h.rng⟩
  rcases h.own.2 with h0 | ⟨g', cap, cur, h0, hb, hh, rest⟩
  · exact .inl h0
  · exact .inr ⟨g', cap, cur, h0, hb, Has.setRow_other hh (by omega), rest⟩
theorem below_setRow' {w : World} {g : Nat} {cs : Array Value} : Below g w (w.setRow g cs) := below_setRow (Below.refl _ _) (Nat.le_refl _) _
/-- number i alone is ready, a call of a Go function whose result has a name only behind it -/
theorem tk_callx {i k : Nat} {o : Oper} {args : Array Value} (T : Value → World → Prop) {fuel : Nat} {listed : Array Bool} {a : Act} {w : World} (hr : Region.ready md ops listed = [i]) (hi : ops.toList[i]? = some o) (hw : Region.wanted o (yielded ops a.tmps) = true)
    (hrun : (execOp a.eval o).run P w = .ok (.enter k args) w) (hc : Calls P k args w fun e w' => ∃ v, e = .returned v ∧ T v w' ∧ S w')
    (h : ∀ v w', T v w' → S w' → wpAnyH P md ops Q S fuel (listed.setIfInBounds i true) (a.put o.dst v) w') : wpAnyH P md ops Q S (fuel + 1) listed a w :=
  wpAnyH_all hr (by simp) fun j hj => by
    obtain rfl : j = i := by simpa using hj
    have hi : ops[j]? = some o := by simpa using hi
    unfold wpOp
    rw [hi]
    simp only [hw, if_true]
    left
    unfold Oper.wp
    rw [hrun, Oper.upon_enter]
    refine hc.mono fun e w' ⟨v, he, hT, hS'⟩ => ?_
    subst he
    exact ⟨hS', h v w' hT hS'⟩
theorem ex_slice {ρ : Operand → Value} {o : Oper} {t : TypeId} {x : Operand} {lo hi mx : Option Operand} {u v : Value} {w : World} (ho : o.op = .slice t x lo hi mx) (hx : ρ x = u) (h : (Instr.sliceAt t u (lo.map ρ) (hi.map ρ) (mx.map ρ)).run P w = .ok v w) : (execOp ρ o).run P w = .ok (.value v) w := by
  subst hx
  unfold execOp
  simp only [ho, Sem.run_bind, Sem.run_pure, h, Result.andThen_ok]
theorem By.from_ {B : Nat} {w : World} {A : Option Addr} {n c : Nat} {l : List Int} (h : By B w A n c l) (t : TypeId) (ht : P.underlying t = some (.slice 5)) (hs : (P.info? 5).map (·.size) = some 1) {k : Nat} (hk : k ≤ n) :
    ∃ A' c', (∀ w', (Instr.sliceAt t (.slice A n c) (some (.int .i64 (k : Int))) none none).run P w' = .ok (.slice A' (n - k) c') w') ∧ By B w A' (n - k) c' (l.drop k) := by
  refine ⟨_, _, fun w' => ?_, h.cut hk⟩
  have he : P.elem t = 5 := by simp [Program.elem, ht]
  have hsz : (sizeOf 5).run P w' = .ok 1 w' := by
    cases hq : P.info? 5 with
    | none => simp [hq] at hs
    | some i => simp [hq] at hs; simp [sizeOf, typeInfo, hq, hs]
  rw [run_sliceAt_slice w' t _ _ _ _ (by rw [he]; exact ht), run_slice_l w' t _ _ _ (by rw [he]; exact ht) .i64 (k : Int) (by omega) (by omega), he, hsz]
  simp [sliced, Result.andThen]
theorem By.to_ {B : Nat} {w : World} {A : Option Addr} {n c : Nat} {l : List Int} (h : By B w A n c l) (t : TypeId) (ht : P.underlying t = some (.slice 5)) (hs : (P.info? 5).map (·.size) = some 1) {k : Nat} (hk : k ≤ n) :
    (∀ w', (Instr.sliceAt t (.slice A n c) none (some (.int .i64 (k : Int))) none).run P w' = .ok (.slice A k c) w') ∧ By B w A k c (l.take k) := by
  refine ⟨fun w' => ?_, h.take hk⟩
  have hcap := h.cap
  have he : P.elem t = 5 := by simp [Program.elem, ht]
  have hsz : (sizeOf 5).run P w' = .ok 1 w' := by
    cases hq : P.info? 5 with
    | none => simp [hq] at hs
    | some i => simp [hq] at hs; simp [sizeOf, typeInfo, hq, hs]
  rw [run_sliceAt_slice w' t _ _ _ _ (by rw [he]; exact ht), run_slice_h w' t _ _ _ (by rw [he]; exact ht) .i64 (k : Int) (by omega) (by omega), he, hsz]
  cases A with
  | none => simp [sliced, Result.andThen]
  | some ad => simp [sliced, Result.andThen, Addr.add]
/-- a whole row loaded, behind a guard that holds -/
theorem wpList_load_rowG {rest : List Oper} {o : Oper} {a : Act} {w : World} (hw : Region.wanted o (yielded ops a.tmps) = true) (ty : TypeId) (x : Operand) (ho : o.op = .load ty x)
    (g : Nat) (hx : a.eval x = .pointer (some ⟨g, 0, none⟩)) (t : TypeId) (cs : Array Value) (fr : Nat × Nat) (d : TypeDesc) (hg : w.heap[g]? = some (.cells cs t fr))
    (hu : P.underlying ty = some d) (hd : (match d with | .struct _ | .array _ _ => true | _ => false) = true) (hi : (P.info? ty).map (·.size) = some cs.size)
    (h : wpList P ops Q rest (a.put o.dst (.agg cs)) w) : wpList P ops Q (o :: rest) a w :=
  Go.BigFrame.wpList_want hw fun _ hK => wp_load_row ty x ho g hx t cs fr d hg hu hd hi (hK _ _ h)
theorem res_cell {fn : Func} {tmps : Array Value} {a : Nat} {t : TypeId} {g : Nat} {v : Value} {w : World} (hr : fn.results = #[.cell a t]) (hx : tmps.getD a undef = .pointer (some ⟨g, 0, none⟩)) (hl : (loadVar t ⟨g, 0, none⟩).run P w = .ok v w) :
    (results fn tmps).run P w = .ok v w := by
  rw [Array.getD_eq_getD_getElem?] at hx
  simp [results, hr, hx, asAddr, hl]
theorem res_cell2 {fn : Func} {tmps : Array Value} {a b : Nat} {t : TypeId} {g : Nat} {v u : Value} {w : World} (hr : fn.results = #[.cell a t, .tmp b]) (hx : tmps.getD a undef = .pointer (some ⟨g, 0, none⟩)) (hl : (loadVar t ⟨g, 0, none⟩).run P w = .ok v w) (hb : tmps.getD b undef = u) :
    (results fn tmps).run P w = .ok (.tuple #[v, u]) w := by
  rw [Array.getD_eq_getD_getElem?] at hx hb
  simp [results, hr, hx, asAddr, hl, hb]
theorem res_cell3 {fn : Func} {tmps : Array Value} {a b c : Nat} {t : TypeId} {g : Nat} {v u u' : Value} {w : World} (hr : fn.results = #[.cell a t, .tmp b, .tmp c]) (hx : tmps.getD a undef = .pointer (some ⟨g, 0, none⟩)) (hl : (loadVar t ⟨g, 0, none⟩).run P w = .ok v w) (hb : tmps.getD b undef = u) (hc : tmps.getD c undef = u') :
    (results fn tmps).run P w = .ok (.tuple #[v, u, u']) w := by
  rw [Array.getD_eq_getD_getElem?] at hx hb hc
  simp [results, hr, hx, asAddr, hl, hb, hc]
end
end Go.Proofs.Ytndmmkadceobjaa
