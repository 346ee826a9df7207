/-
  More moves in a region that draws its order or lies in the text's order: new variables, values read in one world alone, cells stored, copies.
-/
import Derived.Test.YtndmmkadceobjaaReg6
import Derived.Laws.CopyOwn
namespace Go.Proofs.Ytndmmkadceobjaa
open Go.RowKit

section
variable {P : Program}
variable {md : Region.Mode} {ops : Array Oper} {Q : Exit → Act → World → Prop} {S : World → Prop}
theorem op_alloc {i : Nat} {o : Oper} {ty : TypeId} (cs : Array Value) {fuel : Nat} {listed : Array Bool} {a : Act} {w : World} (hi : ops.toList[i]? = some o) (hw : Region.wanted o (yielded ops a.tmps) = true)
    (ho : o.op = .alloc ty) (hz : (P.info? ty).bind (·.zero) = some (.agg cs))
    (hS : ∀ w', Below w.heap.size w w' → S w') (h : ∀ g w', Has w' g (.cells cs ty (0, 0)) → w.heap.size ≤ g → w'.heap.size = g + 1 → Below w.heap.size w w' → S w' → wpAnyH P md ops Q S fuel (listed.setIfInBounds i true) (a.put o.dst (.pointer (some ⟨g, 0, none⟩))) w') : wpOp P ops Q i (fun a' w' => S w' ∧ wpAnyH P md ops Q S fuel (listed.setIfInBounds i true) a' w') a w := by
  have hi : ops[i]? = some o := by simpa using hi
  unfold wpOp
  rw [hi]
  simp only [hw, if_true]
  left
  have hb : Below w.heap.size w (w.alloc (.cells cs ty)) := (Below.refl _ _).alloc (Nat.le_refl _) _
  have hr : (execOp a.eval o).run P w = .ok (.value (.pointer (some ⟨w.heap.size, 0, none⟩))) (w.alloc (.cells cs ty)) := by
    cases hq : P.info? ty with
    | none => simp [hq] at hz
    | some ie =>
      simp only [hq, Option.bind_some] at hz
      unfold execOp
      simp [ho, Instr.alloc, zeroValue, typeInfo, hq, hz, newVar, newRow, Value.cells]
  unfold Oper.wp
  rw [hr]
  exact ⟨hS _ hb, h _ _ (Has.newAt rfl) (Nat.le_refl _) (by simp) hb (hS _ hb)⟩
/-- what lies behind a region is walked once, whichever order it drew -/
theorem wpAnyH_rest {fuel : Nat} {listed : Array Bool} {a : Act} {w : World} {R : Nat → World → Prop} (F : Nat → Act)
    (h1 : (∀ g W, R g W → Q .normal (F g) W) → wpAnyH P md ops Q S fuel listed a w) (h2 : ∀ g W, R g W → Q .normal (F g) W) : wpAnyH P md ops Q S fuel listed a w := h1 h2
/-- a slice of a slice, in the text's order; the operation is looked at first -/
theorem wl_slice {rest : List Oper} {o : Oper} {a : Act} {w : World} {v : Value} (t : TypeId) (x : Operand) (lo hi mx : Option Operand) (ho : o.op = .slice t x lo hi mx) (hw : Region.wanted o (yielded ops a.tmps) = true)
    (u : Value) (hx : a.eval x = u) (l h m : Option Value) (hl : lo.map a.eval = l) (hh : hi.map a.eval = h) (hm : mx.map a.eval = m) (hr : (Instr.sliceAt t u l h m).run P w = .ok v w)
    (hk : wpList P ops Q rest (a.put o.dst v) w) : wpList P ops Q (o :: rest) a w := by
  subst hx hl hh hm
  exact wl v hw (ex_slice ho rfl hr) hk
end

section
variable {P : Program} {ops : Array Oper} {Q : Exit → Act → World → Prop}
theorem pl_build0 {rest : List Oper} {o : Oper} {a : Act} {w : World} {t : TypeId} (hg : o.guard = none) (ho : o.op = .buildSlice t 0 #[]) (hu : P.underlying t = some (.slice 5)) (hs : (P.info? 5).map (·.size) = some 1)
    (h : ∀ g w', OwnB w' w.heap.size (.slice (some ⟨g, 0, none⟩) 0 0) [] → Below w.heap.size w w' → wpList P ops Q rest (a.put o.dst (.slice (some ⟨g, 0, none⟩) 0 0)) w') : wpList P ops Q (o :: rest) a w :=
  wpList_plain hg fun K hK => by
    unfold Oper.wp execOp
    simp only [ho, Sem.run_bind, List.map_toArray, List.map_nil, run_build0 w t _ hu hs, Result.andThen_ok]
    exact hK _ _ (h _ _ (OwnB.made w w.heap.size (Nat.le_refl _)) ((Below.refl _ _).alloc (Nat.le_refl _) _))
theorem pl_app {rest : List Oper} {o : Oper} {a : Act} {w : World} (s x : Operand) (t : TypeId) (hg : o.guard = none)
    (ho : o.op = .call { callee := .builtin .append, args := #[s, x], argTypes := #[t, t] })
    (ht : P.underlying t = some (.slice 5)) (hinfo : (P.info? 5).map (fun i => (i.zero, i.size, i.bytes)) = some (some (.int .u8 0), 1, 1))
    (base : Nat) (v : Value) (l : List Int) (hs : a.eval s = v) (hown : OwnB w base v l)
    (B : Nat) (A : Option Addr) (m c : Nat) (l' : List Int) (hx : a.eval x = .slice A m c) (hy : By B w A m c l')
    (hbytes : l.length + m ≤ 140737488355328) (hbase : base ≤ w.heap.size)
    (h : ∀ v' w', OwnB w' base v' (l ++ l') → Below base w w' → wpList P ops Q rest (a.put o.dst v') w') : wpList P ops Q (o :: rest) a w :=
  wpList_appB w hg s x t ho ht hinfo base v l hs hown B A m c l' hx hy hbytes hbase fun v' w' h1 h2 _ => h v' w' h1 (below_app hown h2 hbase)
theorem pl_store1 {rest : List Oper} {o : Oper} {ty : TypeId} {x y : Operand} {g k : Nat} {v old : Value} {a : Act} {w : World} (hg : o.guard = none)
    (ho : o.op = .store ty x y) (hx : a.eval x = .pointer (some ⟨g, k, none⟩)) (hy : a.eval y = v) (h1 : v.cells = #[v]) (hti : (P.info? ty).map (·.size) = some 1) (hc : w.cell? ⟨g, k, none⟩ = some old) (hf : w.frozen? ⟨g, k, none⟩ = false) (h2 : v.oneCell' = true)
    (h : wpList P ops Q rest (a.put o.dst undef) (w.setCell ⟨g, k, none⟩ v)) : wpList P ops Q (o :: rest) a w :=
  wpList_plain hg fun K hK => by
    have hsz : (sizeOf ty).run P w = .ok 1 w := by
      cases hq : P.info? ty with
      | none => simp [hq] at hti
      | some i => simp [hq] at hti; simp [sizeOf, typeInfo, hq, hti]
    have hst : (store ⟨g, k, none⟩ v).run P w = .ok () (w.setCell ⟨g, k, none⟩ v) := by rw [run_store P w _ v _ h2, hc]; simp [hf]
    have had : (⟨g, k, none⟩ : Addr).add 0 = ⟨g, k, none⟩ := by simp [Addr.add]
    unfold Oper.wp execOp
    simp only [ho, hx, hy, Instr.storeAt, Instr.sureAddr, Sem.run_bind, Sem.run_pure, Result.andThen_ok]
    have hsv : (storeVar ty ⟨g, k, none⟩ v).run P w = .ok () (w.setCell ⟨g, k, none⟩ v) := by simp [storeVar, hsz, h1, storeCells, had, hst]
    simp only [hsv, Result.andThen_ok, Oper.upon_skip]
    exact hK _ _ h
end

section
variable {P : Program} {md : Region.Mode} {ops : Array Oper} {Q : Exit → Act → World → Prop} {S : World → Prop}
theorem op_val {i : Nat} {o : Oper} (v : Value) {fuel : Nat} {listed : Array Bool} {a : Act} {w : World} (hi : ops.toList[i]? = some o) (hw : Region.wanted o (yielded ops a.tmps) = true)
    (hv : (execOp a.eval o).run P w = .ok (.value v) w) (hS : S w) (h : wpAnyH P md ops Q S fuel (listed.setIfInBounds i true) (a.put o.dst v) w) : wpOp P ops Q i (fun a' w' => S w' ∧ wpAnyH P md ops Q S fuel (listed.setIfInBounds i true) a' w') a w := by
  have hi : ops[i]? = some o := by simpa using hi
  unfold wpOp
  rw [hi]
  simp only [hw, if_true]
  left
  unfold Oper.wp
  rw [hv]
  exact ⟨hS, h⟩
theorem ex_max {ρ : Operand → Value} {o : Oper} {ts : Array TypeId} {x y : Operand} {k k' : IntKind} {m n r : Int} {w : World} (ho : o.op = .call { callee := .builtin .max, args := #[x, y], argTypes := ts }) (hx : ρ x = .int k m) (hy : ρ y = .int k' n) (h : (if n > m then n else m) = r) : (execOp ρ o).run P w = .ok (.value (.int k r)) w := by
  subst h
  unfold execOp
  simp [ho, resolve, invoke, builtin, hx, hy, run_max_int2]
theorem add1_i64 (t : TypeId) (k : Nat) (h : k < 9223372036854775807) (w : World) : (binOp .add t (.int .i64 (k : Int)) (.int .i64 1)).run P w = .ok (.int .i64 ((k + 1 : Nat) : Int)) w := by
  rw [add_i64 t (k : Int) 1 (by omega) w, Int.natCast_add]
  rfl
theorem shr8_i64 (t : TypeId) (m : Int) (w : World) : (binOp .shr t (.int .i64 m) (.int .u64 8)).run P w = .ok (.int .i64 (m / 256)) w := by
  have h := shift_shr_i64 (x := m) (y := 8) (yk := .u64) (by decide) (by decide)
  rw [binOp_shr, h]
  rfl
theorem conv_u8' (src dst : TypeId) (k : IntKind) (n : Int) (hs : (P.underlying src).isSome = true) (hd : P.underlying dst = some (.int .u8)) (h : 0 ≤ n ∧ n < 256) (w : World) : (convert src dst (.int k n)).run P w = .ok (.int .u8 n) w := by
  rw [conv_u8 src dst k n hs hd, show n % 256 = n from by omega]
theorem wpAnyH_rest4 {fuel : Nat} {listed : Array Bool} {a : Act} {w : World} {R : Option Addr → Nat → Option Addr → Nat → World → Prop} (F : Option Addr → Nat → Option Addr → Nat → Act)
    (h1 : (∀ A k B m W, R A k B m W → Q .normal (F A k B m) W) → wpAnyH P md ops Q S fuel listed a w) (h2 : ∀ A k B m W, R A k B m W → Q .normal (F A k B m) W) : wpAnyH P md ops Q S fuel listed a w := h1 h2
end

section
variable {P : Program} {md : Region.Mode} {ops : Array Oper} {Q : Exit → Act → World → Prop} {S : World → Prop}
theorem exec_copy {a : Act} {o : Oper} {w : World} (d s : Operand) (dT sT : TypeId) (ho : o.op = .call { callee := .builtin .copy, args := #[d, s], argTypes := #[dT, sT] }) {e : TypeId} (hu : P.underlying dT = some (.slice e)) (hsz : (P.info? e).map (·.size) = some 1)
    {g off n m dc : Nat} (hd : a.eval d = .slice (some ⟨g, off, none⟩) n dc) {A : Option Addr} {c : Nat} {l : List Int} (hs : a.eval s = .slice A m c) {B : Nat} (hy : By B w A m c l) (hm : m = n) (hpos : 0 < n) {cur new : Array Value} {t : TypeId} (hg : Has w g (.cells cur t (0, 0)))
    (hfit : off + n ≤ cur.size) (hnew : (cur.toList.take off ++ u8s l ++ cur.toList.drop (off + n)).toArray = new) : (execOp a.eval o).run P w = .ok (.value (goInt n)) (w.setRow g new) := by
  subst hm
  have hl := hy.len
  obtain ⟨b, o2, rfl, _, hc⟩ := hy.row.at_ hpos
  have hr := run_copy_row (P := P) w dT sT o.type e g off m dc ⟨b, o2, none⟩ m c cur t (u8s l) hu hsz hg (by rw [u8s_length, hl]; exact (Nat.min_self _).symm) (fun j v hj => by
    rw [Go.WideShapes.add_plain]
    have hj2 : j < m := by have := (List.getElem?_eq_some_iff.1 hj).1; rw [u8s_length, hl] at this; exact this
    rw [hc j hj2]; exact hj) (by rw [u8s_length, hl]; exact hfit) (fun v hv => by obtain ⟨y, _, rfl⟩ := List.mem_map.1 hv; rfl)
  rw [u8s_length, hl, hnew] at hr
  unfold execOp
  simp [ho, resolve, invoke, builtin, hd, hs, hr, Result.andThen]
/-- number i alone is ready: a copy of bytes into a block of the call's own -/
theorem tk_copy {i : Nat} {o : Oper} {fuel : Nat} {listed : Array Bool} {a : Act} {w : World} (d s : Operand) (dT sT : TypeId) (hr : Region.ready md ops listed = [i]) (hi : ops.toList[i]? = some o) (hw : Region.wanted o (yielded ops a.tmps) = true) (ho : o.op = .call { callee := .builtin .copy, args := #[d, s], argTypes := #[dT, sT] }) {e : TypeId} (hu : P.underlying dT = some (.slice e)) (hsz : (P.info? e).map (·.size) = some 1)
    {g off n m dc : Nat} (hd : a.eval d = .slice (some ⟨g, off, none⟩) n dc) {A : Option Addr} {c : Nat} {l : List Int} (hs : a.eval s = .slice A m c) {B : Nat} (hy : By B w A m c l) (hm : m = n) (hpos : 0 < n) {cur new : Array Value} {t : TypeId} (hg : Has w g (.cells cur t (0, 0)))
    (hfit : off + n ≤ cur.size) (hnew : (cur.toList.take off ++ u8s l ++ cur.toList.drop (off + n)).toArray = new) (hS : S (w.setRow g new))
    (h : wpAnyH P md ops Q S fuel (listed.setIfInBounds i true) (a.put o.dst (goInt n)) (w.setRow g new)) : wpAnyH P md ops Q S (fuel + 1) listed a w :=
  wpAnyH_all hr (by simp) fun j hj => by
    obtain rfl : j = i := by simpa using hj
    have hi : ops[j]? = some o := by simpa using hi
    unfold wpOp
    rw [hi]
    simp only [hw, if_true]
    left
    unfold Oper.wp
    rw [exec_copy d s dT sT ho hu hsz hd hs hy hm hpos hg hfit hnew]
    exact ⟨hS, h⟩
end
end Go.Proofs.Ytndmmkadceobjaa
