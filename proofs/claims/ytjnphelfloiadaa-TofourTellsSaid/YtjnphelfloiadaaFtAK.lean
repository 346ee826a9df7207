/-
  Lemmas and walks for the row of TofourTells (part 11 of 37).
-/
import Derived.Test.YtjnphelfloiadaaFtAC
import Derived.Test.YtjnphelfloiadaaFtAF
import Derived.Test.YtjnphelfloiadaaFtAH
import Derived.Test.YtjnphelfloiadaaFtAJ
set_option linter.unusedVariables false
set_option linter.unusedSimpArgs false
namespace Go.Proofs.Ytjnphelfloiadaa
open Go.RowKit Go.Shelf

section
variable {P : Program} {o : Oper} {a : Act} {w : World} {K : Act → World → Prop} {Q : Exit → Act → World → Prop}
theorem ls {ops : Array Oper} {rest : List Oper} (hw : Region.wanted o (yielded ops a.tmps) = true) (h : o.wp P a w (wpList P ops Q rest) Q) : wpList P ops Q (o :: rest) a w := by
 unfold wpList
 rw [if_pos hw]
 exact .inl h
theorem lsn {ops : Array Oper} {rest : List Oper} (hw : Region.wanted o (yielded ops a.tmps) = false) (h : wpList P ops Q rest (a.put o.dst undef) w) : wpList P ops Q (o :: rest) a w := by
 unfold wpList
 rw [if_neg (by simp [hw])]
 exact h
theorem rs {ops : Array Oper} {i : Nat} (hi : ops.toList[i]? = some o) (hw : Region.wanted o (yielded ops a.tmps) = true) (h : o.wp P a w K Q) : wpOp P ops Q i K a w := by
 have hi : ops[i]? = some o := by simpa using hi
 unfold wpOp
 rw [hi]
 simp only [hw, if_true]
 exact .inl h
/-- a region that draws, under a condition on what lies below b -/
theorem rg_drawn {ops : Array Oper} {id : Nat} (b : Nat) (hm : P.follows .mixedOrders = true) (hb : b ≤ w.heap.size)
  (h : ∀ w', Below w.heap.size w w' → w'.heap.size = w.heap.size → Below b w w' → wpAnyH P .any ops Q (fun W => Below b w W) ops.size (Array.replicate ops.size false) a w') : (Code.region id ops true).wp P Q a w :=
 wp_region_held_drew hm (below_drew b w) fun hS => h w.drew (below_drew _ w) rfl hS
theorem wpAnyH_join {md : Region.Mode} {ops : Array Oper} {S : World → Prop} {fuel : Nat} {listed : Array Bool} (J : Act → World → Prop) (h1 : (∀ a w, J a w → Q .normal a w) → wpAnyH P md ops Q S fuel listed a w) (h2 : ∀ a w, J a w → Q .normal a w) : wpAnyH P md ops Q S fuel listed a w := h1 h2
theorem wpList_cut {ops : Array Oper} {rest : List Oper} (n : Nat) (J : Act → World → Prop) (h1 : (∀ a w, J a w → wpList P ops Q (rest.drop n) a w) → wpList P ops Q rest a w) (h2 : ∀ a w, J a w → wpList P ops Q (rest.drop n) a w) : wpList P ops Q rest a w := h1 h2
theorem ow_raise (t : TypeId) (v : Value) {x : Operand} (ho : o.op = .panic x) (hx : a.eval x = .iface t v) (h : Q (.panic [{ v := .iface t v, recovered := false }]) a w) : o.wp P a w K Q := by
 have hr : (execOp a.eval o).run P w = .halt (.panic (.iface t v)) w := by
  unfold execOp
  simp [ho, hx]
  rfl
 unfold Oper.wp
 rw [hr]
 exact h
theorem ex_min {ρ : Operand → Value} {ts : Array TypeId} {x y : Operand} {k k' : IntKind} {m n r : Int} (ho : o.op = .call { callee := .builtin .min, args := #[x, y], argTypes := ts }) (hx : ρ x = .int k m) (hy : ρ y = .int k' n) (h : (if n < m then n else m) = r) : (execOp ρ o).run P w = .ok (.value (.int k r)) w := by
 subst h
 unfold execOp
 simp [ho, resolve, invoke, builtin, hx, hy, run_min_int2]
theorem ow_val (v : Value) (hv : (execOp a.eval o).run P w = .ok (.value v) w) (h : K (a.put o.dst v) w) : o.wp P a w K Q := by
 unfold Oper.wp
 rw [hv]
 exact h
theorem ow_box (t : TypeId) (x : Operand) (cs : Array Value) (ho : o.op = .box t x) (hx : a.eval x = .agg cs)
  (h : ∀ g w', Has w' g (.cells cs t (0, 0)) → g = w.heap.size → w'.heap.size = g + 1 → Below w.heap.size w w' → K (a.put o.dst (.pointer (some ⟨g, 0, none⟩))) w') : o.wp P a w K Q := by
 unfold Oper.wp execOp
 simp only [ho, hx]
 exact h _ _ (Has.newAt rfl) rfl (by simp) ((Below.refl _ _).alloc (Nat.le_refl _) _)
theorem ow_alloc {ty : TypeId} (v : Value) (cs : Array Value) (ho : o.op = .alloc ty) (hz : (P.info? ty).bind (·.zero) = some v) (hc : v.cells = cs)
  (h : ∀ g w', Has w' g (.cells cs ty (0, 0)) → g = w.heap.size → w'.heap.size = g + 1 → Below w.heap.size w w' → K (a.put o.dst (.pointer (some ⟨g, 0, none⟩))) w') : o.wp P a w K Q := by
 subst hc
 have hb : Below w.heap.size w (w.alloc (.cells v.cells ty)) := (Below.refl _ _).alloc (Nat.le_refl _) _
 have hr : (execOp a.eval o).run P w = .ok (.value (.pointer (some ⟨w.heap.size, 0, none⟩))) (w.alloc (.cells v.cells ty)) := by
  cases hq : P.info? ty with
  | none => simp [hq] at hz
  | some ie =>
   simp only [hq, Option.bind_some] at hz
   unfold execOp
   simp [ho, Instr.alloc, zeroValue, typeInfo, hq, hz, newVar, newRow]
 unfold Oper.wp
 rw [hr]
 exact h _ _ (Has.newAt rfl) rfl (by simp) hb
theorem ow_call {k : Nat} {args : Array Value} (T : Value → World → Prop) (hrun : (execOp a.eval o).run P w = .ok (.enter k args) w) (hc : Calls P k args w fun e w' => ∃ v, e = .returned v ∧ T v w')
  (h : ∀ v w', T v w' → K (a.put o.dst v) w') : o.wp P a w K Q := by
 unfold Oper.wp
 rw [hrun, Oper.upon_enter]
 refine hc.mono fun e w' ⟨v, he, hT⟩ => ?_
 subst he
 exact h v w' hT
theorem ow_same {k : Nat} {args : Array Value} (v : Value) (hrun : (execOp a.eval o).run P w = .ok (.enter k args) w) (hc : Calls P k args w fun e w' => e = .returned v ∧ w = w')
  (h : K (a.put o.dst v) w) : o.wp P a w K Q := by
 unfold Oper.wp
 rw [hrun, Oper.upon_enter]
 refine hc.mono fun e w' ⟨he, hw⟩ => ?_
 subst he
 subst hw
 exact h
theorem ow_panic {k : Nat} {args : Array Value} (ch : List PanicEntry) (T : World → Prop) (hrun : (execOp a.eval o).run P w = .ok (.enter k args) w) (hc : Calls P k args w fun e w' => e = .panicked ch ∧ T w')
  (h : ∀ w', T w' → Q (.panic ch) a w') : o.wp P a w K Q := by
 unfold Oper.wp
 rw [hrun, Oper.upon_enter]
 refine hc.mono fun e w' ⟨he, hw⟩ => ?_
 subst he
 exact h w' hw
theorem ow_st1 (ty : TypeId) (x y : Operand) (g k : Nat) (v : Value) (cs cs' : Array Value) (t : TypeId) (ho : o.op = .store ty x y) (hx : a.eval x = .pointer (some ⟨g, k, none⟩)) (hy : a.eval y = v) (h1 : v.cells = #[v]) (hti : (P.info? ty).map (·.size) = some 1)
  (hg : Has w g (.cells cs t (0, 0))) (hk : (cs[k]?).isSome = true) (h2 : v.oneCell' = true) (hcs : cs.setIfInBounds k v = cs')
  (h : ∀ w', Has w' g (.cells cs' t (0, 0)) → But6 g w w' → Below g w w' → K (a.put o.dst undef) w') : o.wp P a w K Q := by
 obtain ⟨old, hold⟩ := Option.isSome_iff_exists.1 hk
 have hsz : (sizeOf ty).run P w = .ok 1 w := by
  cases hq : P.info? ty with
  | none => simp [hq] at hti
  | some i => simp [hq] at hti; simp [sizeOf, typeInfo, hq, hti]
 have hst : (store ⟨g, k, none⟩ v).run P w = .ok () (w.setCell ⟨g, k, none⟩ v) := by rw [run_store P w _ v _ h2, hg.cell k hold]; simp [hg.free k]
 have had : (⟨g, k, none⟩ : Addr).add 0 = ⟨g, k, none⟩ := by simp [Addr.add]
 unfold Oper.wp execOp
 simp only [ho, hx, hy, Instr.storeAt, Instr.sureAddr, Sem.run_bind, Sem.run_pure, Result.andThen_ok]
 have hsv : (storeVar ty ⟨g, k, none⟩ v).run P w = .ok () (w.setCell ⟨g, k, none⟩ v) := by simp [storeVar, hsz, h1, storeCells, had, hst]
 simp only [hsv, Result.andThen_ok, Oper.upon_skip]
 exact h _ (hcs ▸ hg.setCell k v) (But6.setCell _ _ _ _) (below_setCell (Below.refl _ _) (Nat.le_refl _) k v)
theorem ow_st (ty : TypeId) (x y : Operand) (g : Nat) (cells old : Array Value) (t : TypeId) (ho : o.op = .store ty x y) (hx : a.eval x = .pointer (some ⟨g, 0, none⟩)) (hy : a.eval y = .agg cells)
  (hg : Has w g (.cells old t (0, 0))) (hi : (P.info? ty).map (·.size) = some cells.size) (hold : old.size = cells.size) (h1 : cells.all (·.oneCell') = true)
  (h : ∀ w', Has w' g (.cells cells t (0, 0)) → But6 g w w' → Below g w w' → K (a.put o.dst undef) w') : o.wp P a w K Q :=
 wp_store_row ty x y ho g cells hx hy t old hg hi hold h1 (h _ hg.setRow_same (But6.setRow _ _ _) below_setRow')
theorem ow_stB (ty : TypeId) (x y : Operand) (g k base n c : Nat) (v : Int) (l : List Int) (ho : o.op = .store ty x y) (hx : a.eval x = .pointer (some ⟨g, k, none⟩)) (hy : a.eval y = .int .u8 v) (hti : (P.info? ty).map (·.size) = some 1)
  (hO : OwnB w base (.slice (some ⟨g, 0, none⟩) n c) l) (hk : k < n) (hn : n = l.length) (hv : 0 ≤ v ∧ v ≤ 255)
  (h : ∀ w', OwnB w' base (.slice (some ⟨g, 0, none⟩) n c) (l.set k v) → But6 g w w' → Below g w w' → K (a.put o.dst undef) w') : o.wp P a w K Q := by
 obtain ⟨g', hg', hb1, hb2, hc, hf, hset⟩ := hO.byte hn hk
 obtain rfl : g = g' := by injection hg' with e; injection e
 have hsz : (sizeOf ty).run P w = .ok 1 w := by
  cases hq : P.info? ty with
  | none => simp [hq] at hti
  | some i => simp [hq] at hti; simp [sizeOf, typeInfo, hq, hti]
 have hst : (store ⟨g, k, none⟩ (.int .u8 v)).run P w = .ok () (w.setCell ⟨g, k, none⟩ (.int .u8 v)) := by rw [run_store P w _ _ _ rfl, hc]; simp [hf]
 have had : (⟨g, k, none⟩ : Addr).add 0 = ⟨g, k, none⟩ := by simp [Addr.add]
 unfold Oper.wp execOp
 simp only [ho, hx, hy, Instr.storeAt, Instr.sureAddr, Sem.run_bind, Sem.run_pure, Result.andThen_ok]
 have hsv : (storeVar ty ⟨g, k, none⟩ (.int .u8 v)).run P w = .ok () (w.setCell ⟨g, k, none⟩ (.int .u8 v)) := by simp [storeVar, hsz, Value.cells, storeCells, had, hst]
 simp only [hsv, Result.andThen_ok, Oper.upon_skip]
 exact h _ (hset v hv) (But6.setCell _ _ _ _) (below_setCell (Below.refl _ _) (Nat.le_refl _) k _)
theorem ow_build {t e : TypeId} {len : Nat} {parts : Array (Nat × Operand)} (vs : List Value)
  (ho : o.op = .buildSlice t len parts) (hu : P.underlying t = some (.slice e)) (hsz : (P.info? e).map (·.size) = some 1) (hz : ((P.info? e).bind (·.zero)).isSome = true) (hlen : len = vs.length) (hpos : 0 < len) (hsmall : len ≤ 2 ^ 24)
  (hp : (parts.map fun (i, x) => (i, a.eval x)).toList = (vs.zipIdx 0).map fun x => (x.2, x.1)) (h1 : ∀ v ∈ vs, v.cells = #[v])
  (h : ∀ g w', Has w' g (.cells vs.toArray e (0, 0)) → g = w.heap.size → w'.heap.size = g + 1 → Below w.heap.size w w' → K (a.put o.dst (.slice (some ⟨g, 0, none⟩) len len)) w') : o.wp P a w K Q := by
 cases hie : P.info? e with
 | none => simp [hie] at hsz
 | some ie =>
  simp only [hie, Option.map_some, Option.some.injEq, Option.bind_some] at hsz hz
  obtain ⟨z, hzz⟩ := Option.isSome_iff_exists.1 hz
  have hb : Below w.heap.size w (w.alloc (.cells vs.toArray e)) := (Below.refl _ _).alloc (Nat.le_refl _) _
  refine wp_buildSlice t e len parts ho _ ie z hu hie hzz (by rw [hsz]; omega) (by rw [hsz]; omega) ?_ (h _ _ (Has.newAt rfl) rfl (by simp) hb)
  rw [hp, hsz]
  exact Great.fill_flat _ _ h1 (by simp [hlen])
theorem ow_build0 {t e : TypeId} (ho : o.op = .buildSlice t 0 #[]) (hu : P.underlying t = some (.slice e)) (hs : (P.info? e).map (·.size) = some 1)
  (h : ∀ g w', Has w' g (.cells #[] e (0, 0)) → g = w.heap.size → w'.heap.size = g + 1 → Below w.heap.size w w' → K (a.put o.dst (.slice (some ⟨g, 0, none⟩) 0 0)) w') : o.wp P a w K Q := by
 have hb : Below w.heap.size w (w.alloc (.cells #[] e)) := (Below.refl _ _).alloc (Nat.le_refl _) _
 have hr := run_build0 w t e hu hs
 unfold Oper.wp execOp
 simp only [ho, Sem.run_bind, Array.map_empty, hr, Result.andThen_ok]
 exact h _ _ (Has.newAt rfl) rfl (by simp) hb
theorem ow_make (t : TypeId) (x y : Operand) (ho : o.op = .makeSlice t x y) (l c : Nat) (hx : a.eval x = .int .i64 (l : Int)) (hy : a.eval y = .int .i64 (c : Int))
  (ht : P.underlying t = some (.slice 5)) (hinfo : (P.info? 5).map (fun i => (i.zero, i.size, i.bytes)) = some (some (.int .u8 0), 1, 1)) (hlc : l ≤ c) (hc : c ≤ 140737488355328)
  (h : ∀ g w', OwnB w' w.heap.size (.slice (some ⟨g, 0, none⟩) l c) (List.replicate l 0) → g = w.heap.size → w'.heap.size = g + 1 → Below w.heap.size w w' → K (a.put o.dst (.slice (some ⟨g, 0, none⟩) l c)) w') : o.wp P a w K Q := by
 obtain ⟨i, hi, hz, hsz, hby⟩ := info_parts hinfo
 have hr := run_make (P := P) w t 5 i (.int .u8 0) ht hi hz .i64 .i64 (l : Int) (c : Int) (by omega) (by omega) (by rw [hby]; omega) (by omega)
 simp only [Int.toNat_natCast, hsz, Nat.mul_one] at hr
 unfold Oper.wp execOp
 simp only [ho, hx, hy, Sem.run_bind, Sem.run_pure, hr, Result.andThen_ok]
 exact h _ _ (OwnB.zeros w w.heap.size l c (Nat.le_refl _) hlc hc) rfl (by simp) ((Below.refl _ _).alloc (Nat.le_refl _) _)
theorem ow_app (s x : Operand) (t : TypeId) (ho : o.op = .call { callee := .builtin .append, args := #[s, x], argTypes := #[t, t] })
  (ht : P.underlying t = some (.slice 5)) (hinfo : (P.info? 5).map (fun i => (i.zero, i.size, i.bytes)) = some (some (.int .u8 0), 1, 1))
  (base : Nat) (v : Value) (l : List Int) (hs : a.eval s = v) (hown : OwnB w base v l)
  (B : Nat) (A : Option Addr) (m c : Nat) (l' : List Int) (hx : a.eval x = .slice A m c) (hy : By B w A m c l')
  (hbytes : l.length + m ≤ 140737488355328) (hbase : base ≤ w.heap.size)
  (h : ∀ v' w', OwnB w' base v' (l ++ l') → Below base w w' → w.grownBy w' v.ownBlock → K (a.put o.dst v') w') : o.wp P a w K Q :=
 wp_append_row w s x t ho base _ _ 1 ht hinfo rfl v l.length (u8s l) hs hown.own B A m c (u8s l') hx hy.row (fun u hu => by
   obtain ⟨y, _, rfl⟩ := List.mem_map.1 hu; rfl) (by simp only [maxLen]; omega) (by omega) hbase
   fun v' w' h2 h3 _ => by
    have ho' : OwnB w' base v' (l ++ l') := ⟨by rw [List.length_append, hy.len, u8s_append]; exact h2, hown.rng.app hy.rng⟩
    exact h v' w' ho' (below_app hown h3 hbase) h3
theorem ex_move {ρ : Operand → Value} {x : Operand} {v : Value} (ho : o.op = .move x) (hx : ρ x = v) : (execOp ρ o).run P w = .ok (.value v) w := by
 unfold execOp
 simp only [ho, hx]
 rfl
theorem ex_assign {ρ : Operand → Value} {x : Operand} {v : Value} (ho : o.op = .assign x) (hx : ρ x = v) : (execOp ρ o).run P w = .ok (.value v) w := by
 unfold execOp
 simp only [ho, hx]
 rfl
theorem ex_pick {ρ : Operand → Value} {c x y : Operand} {b : Bool} {v u r : Value} (ho : o.op = .pick c x y) (hc : ρ c = .bool b) (hx : ρ x = v) (hy : ρ y = u) (h : (if b then v else u) = r) : (execOp ρ o).run P w = .ok (.value r) w := by
 subst hx hy
 unfold execOp
 cases b <;> simp [ho, hc, asBool] <;> exact h
theorem ex_extract {ρ : Operand → Value} {x : Operand} {k : Nat} {vs : Array Value} {v : Value} (ho : o.op = .extract x k) (hx : ρ x = .tuple vs) (hv : vs[k]? = some v) : (execOp ρ o).run P w = .ok (.value v) w := by
 unfold execOp
 simp [ho, hx, Instr.extract, hv]
theorem ex_not {ρ : Operand → Value} {t : TypeId} {x : Operand} {b : Bool} (ho : o.op = .unOp .not t x) (hx : ρ x = .bool b) : (execOp ρ o).run P w = .ok (.value (.bool (!b))) w := by
 have hr : (Op.unary .not (.bool b)).run P w = .ok (.bool (!b)) w := rfl
 unfold execOp
 simp only [ho, hx, Sem.run_bind, hr, Result.andThen_ok, Sem.run_pure]
theorem c_gtr (t : TypeId) (k : IntKind) (m n : Int) : (binOp .gtr t (.int k m) (.int k n)).run P w = .ok (.bool (decide (m > n))) w := by
 simp [binOp, Op.intCmp]
theorem c_lss (t : TypeId) (k : IntKind) (m n : Int) : (binOp .lss t (.int k m) (.int k n)).run P w = .ok (.bool (decide (m < n))) w := by
 simp [binOp, Op.intCmp]
theorem c_geq (t : TypeId) (k : IntKind) (m n : Int) : (binOp .geq t (.int k m) (.int k n)).run P w = .ok (.bool (decide (m ≥ n))) w := by
 simp [binOp, Op.intCmp]
theorem c_leq (t : TypeId) (k : IntKind) (m n : Int) : (binOp .leq t (.int k m) (.int k n)).run P w = .ok (.bool (decide (m ≤ n))) w := by
 simp [binOp, Op.intCmp]
theorem ex_gtr {ρ : Operand → Value} {t z : TypeId} {k : IntKind} {x y : Operand} {m n : Int} {b : Bool} (ho : o.op = .binOp .gtr t x y z) (hx : ρ x = .int k m) (hy : ρ y = .int k n) (h : decide (m > n) = b) : (execOp ρ o).run P w = .ok (.value (.bool b)) w := by
 subst h
 exact ex_bin ho hx hy (by decide) (c_gtr t k m n)
theorem ex_lss {ρ : Operand → Value} {t z : TypeId} {k : IntKind} {x y : Operand} {m n : Int} {b : Bool} (ho : o.op = .binOp .lss t x y z) (hx : ρ x = .int k m) (hy : ρ y = .int k n) (h : decide (m < n) = b) : (execOp ρ o).run P w = .ok (.value (.bool b)) w := by
 subst h
 exact ex_bin ho hx hy (by decide) (c_lss t k m n)
theorem ex_geq {ρ : Operand → Value} {t z : TypeId} {k : IntKind} {x y : Operand} {m n : Int} {b : Bool} (ho : o.op = .binOp .geq t x y z) (hx : ρ x = .int k m) (hy : ρ y = .int k n) (h : decide (m ≥ n) = b) : (execOp ρ o).run P w = .ok (.value (.bool b)) w := by
 subst h
 exact ex_bin ho hx hy (by decide) (c_geq t k m n)
theorem ex_leq {ρ : Operand → Value} {t z : TypeId} {k : IntKind} {x y : Operand} {m n : Int} {b : Bool} (ho : o.op = .binOp .leq t x y z) (hx : ρ x = .int k m) (hy : ρ y = .int k n) (h : decide (m ≤ n) = b) : (execOp ρ o).run P w = .ok (.value (.bool b)) w := by
 subst h
 exact ex_bin ho hx hy (by decide) (c_leq t k m n)
theorem res_one {fn : Func} {tmps : Array Value} {i : Nat} {v : Value} (hr : fn.results = #[.tmp i]) (hx : tmps.getD i undef = v) : (results fn tmps).run P w = .ok v w := by
 rw [Array.getD_eq_getD_getElem?] at hx
 simp [results, hr, hx]
theorem bodyPost_nrm {fn : Func} {T : Ending → World → Prop} {v : Value} (hr : (results fn a.tmps).run P w = .ok v w) (hd : a.defers = []) (hR : T (.returned v) w) : bodyPost P fn T .normal a w := ⟨hd, v, hr, hR⟩
theorem res_nil {fn : Func} {tmps : Array Value} (hr : fn.results = #[]) : (results fn tmps).run P w = .ok (.tuple #[]) w := by simp [results, hr]
theorem lz {ops : Array Oper} {rest : List Oper} (h : o.wp P a w (wpList P ops Q rest) Q) (hw : Region.wanted o (yielded ops a.tmps) = true := by kernel_rfl) : wpList P ops Q (o :: rest) a w := ls hw h
theorem lzn {ops : Array Oper} {rest : List Oper} (h : wpList P ops Q rest (a.put o.dst undef) w) (hw : Region.wanted o (yielded ops a.tmps) = false := by kernel_rfl) : wpList P ops Q (o :: rest) a w := lsn hw h
theorem xf {ρ : Operand → Value} {s : TypeId} {x : Operand} {k g : Nat} {fs : Array Field} {f : Field} (off m : Nat) (hs : P.underlying s = some (.struct fs)) (ho : o.op = .fieldAddr s x k := by exact rfl) (hf : fs[k]? = some f := by exact rfl) (hoff : f.offset = off := by exact rfl) (hz : (P.info? f.type).map (·.size) = some (m + 1) := by kernel_rfl) (hx : ρ x = .pointer (some ⟨g, 0, none⟩) := by exact rfl) :
  (execOp ρ o).run P w = .ok (.value (.pointer (some ⟨g, off, none⟩))) w := ex_field off m ho hs hf hoff hz hx
theorem xm {ρ : Operand → Value} {x : Operand} {v : Value} (ho : o.op = .move x := by exact rfl) (hx : ρ x = v := by exact rfl) : (execOp ρ o).run P w = .ok (.value v) w := ex_move ho hx
theorem xa {ρ : Operand → Value} {x : Operand} {v : Value} (ho : o.op = .assign x := by exact rfl) (hx : ρ x = v := by exact rfl) : (execOp ρ o).run P w = .ok (.value v) w := ex_assign ho hx
theorem xp {ρ : Operand → Value} {c x y : Operand} {b : Bool} {v u r : Value} (ho : o.op = .pick c x y := by exact rfl) (hc : ρ c = .bool b := by exact rfl) (hx : ρ x = v := by exact rfl) (hy : ρ y = u := by exact rfl) (h : (if b then v else u) = r := by exact rfl) : (execOp ρ o).run P w = .ok (.value r) w := ex_pick ho hc hx hy h
theorem xc {ρ : Operand → Value} {ty : TypeId} {x : Operand} {b k : Nat} {v : Value} {d : TypeDesc} (hu : P.underlying ty = some d) (h : w.cell? ⟨b, k, none⟩ = some v) (ho : o.op = .load ty x := by exact rfl) (hd : d.isRow = false := by exact rfl) (hx : ρ x = .pointer (some ⟨b, k, none⟩) := by exact rfl) : (execOp ρ o).run P w = .ok (.value v) w := ex_cell ho hu hd hx h
theorem xq {ρ : Operand → Value} {t z : TypeId} {k : IntKind} {x y : Operand} {m n : Int} (h : m = n) (ho : o.op = .binOp .eql t x y z := by exact rfl) (hx : ρ x = .int k m := by exact rfl) (hy : ρ y = .int k n := by exact rfl) : (execOp ρ o).run P w = .ok (.value (.bool true)) w := eq_int_eq ho hx hy h
theorem xqn {ρ : Operand → Value} {t z : TypeId} {k : IntKind} {x y : Operand} {m n : Int} (h : m ≠ n) (ho : o.op = .binOp .eql t x y z := by exact rfl) (hx : ρ x = .int k m := by exact rfl) (hy : ρ y = .int k n := by exact rfl) : (execOp ρ o).run P w = .ok (.value (.bool false)) w := eq_int_ne ho hx hy h
theorem xz {ρ : Operand → Value} {t e : TypeId} {x : Operand} {A : Option Addr} {n c : Nat} (ht : P.underlying t = some (.slice e)) (ho : o.op = .call { callee := .builtin .len, args := #[x], argTypes := #[t] } := by exact rfl) (hx : ρ x = .slice A n c := by exact rfl) : (execOp ρ o).run P w = .ok (.value (.int .i64 (n : Int))) w := ex_len ho ht hx
theorem Has.loadIn {g : Nat} {cs : Array Value} {t : TypeId} {fz : Nat × Nat} (h : Has w g (.cells cs t fz)) (off : Nat) (l : List Value) (hl : (cs.toList.drop off).take l.length = l) (ty : TypeId) {d : TypeDesc} (hu : P.underlying ty = some d) (hd : d.isRow = true) (hi : (P.info? ty).map (·.size) = some l.length) :
  (loadVar ty ⟨g, off, none⟩).run P w = .ok (.agg l.toArray) w := by
 refine h.loadAt off l (fun j v hj => ?_) ty hu hd hi
 rw [← hl, List.getElem?_take] at hj
 split at hj
 ·rw [List.getElem?_drop] at hj; simpa using hj
 ·cases hj
theorem ex_indexE {ρ : Operand → Value} {t e : TypeId} {x ix : Operand} {A : Option Addr} {b off n c k : Nat} (ho : o.op = .indexAddr t x ix) (ht : P.underlying t = some (.slice e)) (hs : (P.info? e).map (·.size) = some 1) (hx : ρ x = .slice A n c) (hi : ρ ix = .int .i64 (k : Int)) (hA : A = some ⟨b, off, none⟩) (hk : k < n) :
  (execOp ρ o).run P w = .ok (.value (.pointer (some ⟨b, off + k, none⟩))) w := by
 subst hA
 exact ex_index ho ht hs hx hi hk
end
theorem in_rng {x : Int} (h : 0 ≤ x ∧ x ≤ 255) : 0 ≤ x ∧ x < 65536 ∧ x < 4294967296 := by omega
theorem Has.to {w w' : World} {g : Nat} {o : Obj} (h : Has w g o) (b : Below w.heap.size w w') : Has w' g o := h.below b h.lt
theorem By.to {w w' : World} {A : Option Addr} {n c : Nat} {l : List Int} (h : By w.heap.size w A n c l) (b : Below w.heap.size w w') : By w'.heap.size w' A n c l := (h.below b (Nat.le_refl _)).more b.size
theorem OwnB.to {w w' : World} {base : Nat} {v : Value} {l : List Int} (h : OwnB w base v l) (b : Below w.heap.size w w') : OwnB w' base v l := h.below b
theorem OwnK.to {w w' : World} {base : Nat} {e : TypeId} {v : Value} {ps : List Kd} (h : OwnK w base e v ps) (b : Below w.heap.size w w') : OwnK w' base e v ps := h.below b
theorem Kds.to {w w' : World} {A : Option Addr} {n c : Nat} {ps : List Kd} (h : Kds w.heap.size w A n c ps) (b : Below w.heap.size w w') : Kds w'.heap.size w' A n c ps := (h.below b (Nat.le_refl _)).more b.size
theorem Rd6.to {w w' : World} {d : D6} {p : W6} (h : Rd6 w.heap.size w d p) (b : Below w.heap.size w w') : Rd6 w'.heap.size w' d p := (h.below b (Nat.le_refl _)).more b.size
theorem By.form {B : Nat} {w : World} {A : Option Addr} {n c k : Nat} {l : List Int} (h : By B w A n c l) (hk : k < n) : ∃ b off, A = some ⟨b, off, none⟩ := by
 obtain ⟨b, off, _, hA, _⟩ := h.get hk
 exact ⟨b, off, hA⟩
theorem By.atE {B : Nat} {w : World} {A : Option Addr} {b off n c k : Nat} {l : List Int} (h : By B w A n c l) (hA : A = some ⟨b, off, none⟩) (hk : k < n) : w.cell? ⟨b, off + k, none⟩ = some (.int .u8 (l.getD k 0)) := by
 subst hA
 exact h.atO hk
section
variable {P : Program} {o : Oper} {a : Act} {w : World} {K : Act → World → Prop} {Q : Exit → Act → World → Prop}
theorem xk {k : Nat} {xs : Array Operand} {ats : Array TypeId} {args : Array Value} {fn : Func} (hf : P.funcs[k]? = some fn) (ho : o.op = .call { callee := .value (.func k), args := xs, argTypes := ats } := by exact rfl) (hn : (fn.name == "runtime.NumGoroutine") = false := by kernel_rfl) (hb : fn.body.isNone = false := by kernel_rfl)
  (hx : (xs.map a.eval) = args := by simp only [List.map_toArray, List.map_cons, List.map_nil] <;> rfl) : (execOp a.eval o).run P w = .ok (.enter k args) w := ex_call ho hf hn hb hx
theorem xb {ρ : Operand → Value} {op : BinOp} {t z : TypeId} {x y : Operand} {u u' v : Value} (h : (binOp op t u u').run P w = .ok v w) (ho : o.op = .binOp op t x y z := by exact rfl) (hx : ρ x = u := by exact rfl) (hy : ρ y = u' := by exact rfl) (hn : op ≠ .eql ∧ op ≠ .neq := by decide) : (execOp ρ o).run P w = .ok (.value v) w := ex_bin ho hx hy hn h
theorem yq {ρ : Operand → Value} {t z : TypeId} {k : IntKind} {x y : Operand} {m n : Int} (ho : o.op = .binOp .eql t x y z := by exact rfl) (hx : ρ x = .int k m := by exact rfl) (hy : ρ y = .int k n := by exact rfl) (h : m = n := by first | assumption | omega) : (execOp ρ o).run P w = .ok (.value (.bool true)) w := eq_int_eq ho hx hy h
theorem yqn {ρ : Operand → Value} {t z : TypeId} {k : IntKind} {x y : Operand} {m n : Int} (ho : o.op = .binOp .eql t x y z := by exact rfl) (hx : ρ x = .int k m := by exact rfl) (hy : ρ y = .int k n := by exact rfl) (h : m ≠ n := by first | assumption | omega) : (execOp ρ o).run P w = .ok (.value (.bool false)) w := eq_int_ne ho hx hy h
theorem xv {ρ : Operand → Value} {src dst : TypeId} {x : Operand} {u v : Value} (h : (convert src dst u).run P w = .ok v w) (ho : o.op = .convert src dst x := by exact rfl) (hx : ρ x = u := by exact rfl) : (execOp ρ o).run P w = .ok (.value v) w := ex_conv ho hx h
theorem xo {ρ : Operand → Value} {ty : TypeId} {x : Operand} {b : Nat} {v : Value} (h : (loadVar ty ⟨b, 0, none⟩).run P w = .ok v w) (ho : o.op = .load ty x := by exact rfl) (hx : ρ x = .pointer (some ⟨b, 0, none⟩) := by exact rfl) : (execOp ρ o).run P w = .ok (.value v) w := ex_load ho hx h
theorem xi {ρ : Operand → Value} {t e : TypeId} {x ix : Operand} {A : Option Addr} {b off n c : Nat} (k : Nat) (ht : P.underlying t = some (.slice e)) (hA : A = some ⟨b, off, none⟩) (ho : o.op = .indexAddr t x ix := by exact rfl) (hs : (P.info? e).map (·.size) = some 1 := by kernel_rfl) (hx : ρ x = .slice A n c := by exact rfl) (hi : ρ ix = .int .i64 (k : Int) := by exact rfl) (hk : k < n := by omega) :
  (execOp ρ o).run P w = .ok (.value (.pointer (some ⟨b, off + k, none⟩))) w := ex_indexE ho ht hs hx hi hA hk
theorem xe {ρ : Operand → Value} {x : Operand} {k : Nat} {vs : Array Value} {v : Value} (ho : o.op = .extract x k := by exact rfl) (hx : ρ x = .tuple vs := by exact rfl) (hv : vs[k]? = some v := by exact rfl) : (execOp ρ o).run P w = .ok (.value v) w := ex_extract ho hx hv
theorem lv {ops : Array Oper} {rest : List Oper} (v : Value) (hv : (execOp a.eval o).run P w = .ok (.value v) w) (h : wpList P ops Q rest (a.put o.dst v) w) (hw : Region.wanted o (yielded ops a.tmps) = true := by kernel_rfl) : wpList P ops Q (o :: rest) a w := ls hw (ow_val v hv h)
theorem bt {w1 w2 w3 : World} (h : Below w1.heap.size w1 w2) (h2 : Below w2.heap.size w2 w3) : Below w1.heap.size w1 w3 := h.trans (h2.mono h.size)
theorem wp_sr {id : Nat} {l : List Oper} {y : Code} (h : wpList P l.toArray (Exit.then (y.wp P Q) Q) l a w) : (Code.seq (Code.region id l.toArray false) y).wp P Q a w := wp_seq (wp_region_lit h)
theorem wn {ops : Array Oper} {R : Exit → Act → World → Prop} {c : Code} (h : c.wp P R a w) (e : c.wp P R a w = Q .normal a w := by exact rfl) : wpList P ops Q [] a w := wpList_nil (e ▸ h)
theorem oa {ty : TypeId} (cs : Array Value) (h : ∀ g w', Has w' g (.cells cs ty (0, 0)) → g = w.heap.size → w'.heap.size = g + 1 → Below w.heap.size w w' → K (a.put o.dst (.pointer (some ⟨g, 0, none⟩))) w') (ho : o.op = .alloc ty := by exact rfl) (hz : (P.info? ty).bind (·.zero) = some (.agg cs) := by kernel_rfl) : o.wp P a w K Q := ow_alloc (.agg cs) cs ho hz rfl h
theorem lq {w1 w2 : World} {g : Nat} (h : Below w1.heap.size w1 w2) (e : g = w2.heap.size) : w1.heap.size ≤ g := Nat.le_trans h.size (Nat.le_of_eq e.symm)
theorem t1 {md : Region.Mode} {ops : Array Oper} {S : World → Prop} (i : Nat) {fuel : Nat} {listed : Array Bool} (hi : ops.toList[i]? = some o) (h : o.wp P a w (fun a' w' => S w' ∧ wpAnyH P md ops Q S fuel (listed.setIfInBounds i true) a' w') Q) (hr : Region.ready md ops listed = [i] := by kernel_rfl) (hw : Region.wanted o (yielded ops a.tmps) = true := by kernel_rfl) : wpAnyH P md ops Q S (fuel + 1) listed a w := tk_one hr (rs hi hw h)
theorem cF9 {c : Operand} {x y : Code} (h : y.wp P Q a w) (hc : a.eval c = .bool false := by exact rfl) : (Code.cond c x y).wp P Q a w := wp_cond_false hc h
theorem cT9 {c : Operand} {x y : Code} (h : x.wp P Q a w) (hc : a.eval c = .bool true := by exact rfl) : (Code.cond c x y).wp P Q a w := wp_cond_true hc h
end
abbrev a16 (s : List Int) : Array Value := #[.int .u8 (s.getD 0 0), .int .u8 (s.getD 1 0), .int .u8 (s.getD 2 0), .int .u8 (s.getD 3 0), .int .u8 (s.getD 4 0), .int .u8 (s.getD 5 0), .int .u8 (s.getD 6 0), .int .u8 (s.getD 7 0), .int .u8 (s.getD 8 0), .int .u8 (s.getD 9 0), .int .u8 (s.getD 10 0), .int .u8 (s.getD 11 0), .int .u8 (s.getD 12 0), .int .u8 (s.getD 13 0), .int .u8 (s.getD 14 0), .int .u8 (s.getD 15 0)]
abbrev w16 (s : List Int) : List Value := [.int .u8 (s.getD 0 0), .int .u8 (s.getD 1 0), .int .u8 (s.getD 2 0), .int .u8 (s.getD 3 0), .int .u8 (s.getD 4 0), .int .u8 (s.getD 5 0), .int .u8 (s.getD 6 0), .int .u8 (s.getD 7 0), .int .u8 (s.getD 8 0), .int .u8 (s.getD 9 0), .int .u8 (s.getD 10 0), .int .u8 (s.getD 11 0), .int .u8 (s.getD 12 0), .int .u8 (s.getD 13 0), .int .u8 (s.getD 14 0), .int .u8 (s.getD 15 0)]
abbrev h41 (a b c : Int) (s t : List Int) (A : Option Addr) (n m : Nat) (f : Bool) (i o : Int) (g : Bool) (p : Int) (B : Option Addr) (k q : Nat) : Array Value := #[.int .u8 a, .int .u32 b, .int .u8 c, .int .u8 (s.getD 0 0), .int .u8 (s.getD 1 0), .int .u8 (s.getD 2 0), .int .u8 (s.getD 3 0), .int .u8 (s.getD 4 0), .int .u8 (s.getD 5 0), .int .u8 (s.getD 6 0), .int .u8 (s.getD 7 0), .int .u8 (s.getD 8 0), .int .u8 (s.getD 9 0), .int .u8 (s.getD 10 0), .int .u8 (s.getD 11 0), .int .u8 (s.getD 12 0), .int .u8 (s.getD 13 0), .int .u8 (s.getD 14 0), .int .u8 (s.getD 15 0), .int .u8 (t.getD 0 0), .int .u8 (t.getD 1 0), .int .u8 (t.getD 2 0), .int .u8 (t.getD 3 0), .int .u8 (t.getD 4 0), .int .u8 (t.getD 5 0), .int .u8 (t.getD 6 0), .int .u8 (t.getD 7 0), .int .u8 (t.getD 8 0), .int .u8 (t.getD 9 0), .int .u8 (t.getD 10 0), .int .u8 (t.getD 11 0), .int .u8 (t.getD 12 0), .int .u8 (t.getD 13 0), .int .u8 (t.getD 14 0), .int .u8 (t.getD 15 0), .slice A n m, .bool f, .int .u32 i, .int .i64 o, .bool g, .int .u8 p, .slice B k q]

end Go.Proofs.Ytjnphelfloiadaa
